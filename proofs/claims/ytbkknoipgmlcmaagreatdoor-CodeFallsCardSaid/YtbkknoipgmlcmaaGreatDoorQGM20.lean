import Derived.Test.YtbkknoipgmlcmaaGreatDoorQGM15
set_option linter.all false
set_option maxHeartbeats 8000000
set_option maxRecDepth 100000
namespace Go.Proofs.QP
open Go.RowKit Go.Proofs.PW Go.Proofs.PL Go.Proofs.PM Go.Proofs.FX
section
section
attribute [local go_sem] Instr.index yd zV
def zI (w0 W : World) (g : Nat) (f0 : List Int) (f1 : Int) (f2 : Int) : Prop := ∃ A0 c0, W.heap[g]? = some (.cells #[.slice A0 f0.length c0, .int .i64 f1, .int .i64 f2] 104 (0, 0)) ∧ (w0.heap.size ≤ g ∧ f0.length ≤ c0) ∧ Kd.C (Kd.int .u8) w0 A0 f0.length f0
theorem zI.grown {w0 W : World} {g : Nat} {f0 : List Int} {f1 : Int} {f2 : Int} {W1 : World} {row : Option Nat} (h : zI w0 W g f0 f1 f2) (hw : W.grownBy W1 row) (hne : some g ≠ row) : zI w0 W1 g f0 f1 f2 := by
 obtain ⟨A0, c0, hb, hg, hr0⟩ := h
 exact ⟨A0, c0, yX hb hw hne, hg, hr0⟩
theorem zI.kept {w0 W : World} {g : Nat} {f0 : List Int} {f1 : Int} {f2 : Int} {W1 : World} {S : Nat → Prop} (h : zI w0 W g f0 f1 f2) (hk : Kept W W1 S) (hne : ¬ S g) : zI w0 W1 g f0 f1 f2 := by
 obtain ⟨A0, c0, hb, hg, hr0⟩ := h
 exact ⟨A0, c0, z6B hb hk hne, hg, hr0⟩
theorem zI.below {w0 W : World} {g : Nat} {f0 : List Int} {f1 : Int} {f2 : Int} {W1 : World} (h : zI w0 W g f0 f1 f2) (hw : Below W.heap.size W W1) : zI w0 W1 g f0 f1 f2 := h.grown (z2C hw none) (by simp)
theorem zI.alloc {w0 W : World} {g : Nat} {f0 : List Int} {f1 : Int} {f2 : Int} (h : zI w0 W g f0 f1 f2) (o : Obj) : zI w0 (W.alloc o) g f0 f1 f2 := h.below (zl (Below.refl _ _) o)
theorem zI.drewN {w0 W : World} {g : Nat} {f0 : List Int} {f1 : Int} {f2 : Int} (h : zI w0 W g f0 f1 f2) (m : Nat) : zI w0 (W.drewN m) g f0 f1 f2 := h
theorem zI.drew {w0 W : World} {g : Nat} {f0 : List Int} {f1 : Int} {f2 : Int} (h : zI w0 W g f0 f1 f2) : zI w0 W.drew g f0 f1 f2 := h
theorem zI.at_ {w0 W : World} {g : Nat} {f0 : List Int} {f1 : Int} {f2 : Int} {w' : World} {m : Nat} (hq : W.drewN m = w') (h : zI w0 W g f0 f1 f2) : zI w0 w' g f0 f1 f2 := by subst hq; exact zI.drewN h m
theorem zI.apart {w0 W : World} {g : Nat} {f0 : List Int} {f1 : Int} {f2 : Int} {α : Type} {d : Kd α} {e : Nat} {base : Nat} {ok : Nat → Prop} {v : Value} {xs : List α} (h : zI w0 W g f0 f1 f2) (ho : d.R e W base ok v xs) (ht : ∀ q, q ∈ e :: d.E → q ≠ 104) : d.R e W base (fun k => ok k ∧ k ≠ g) v xs := by
 obtain ⟨A0, c0, hb, hg, hr0⟩ := h
 exact Kd.xh ho hb ht
theorem zI.z7X {w0 W : World} {g : Nat} {f0 : List Int} {f1 : Int} {f2 : Int} {α : Type} {d : Kd α} {e : Nat} {base : Nat} {ok : Nat → Prop} {v : Value} {xs : List α} (h : zI w0 W g f0 f1 f2) (ho : d.R e W base ok v xs) (ht : e ≠ 104) : some g ≠ v.ownBlock := by
 obtain ⟨A0, c0, hb, hg, hr0⟩ := h
 exact Kd.z3f ho hb ht
theorem zI.lt {w0 W : World} {g : Nat} {f0 : List Int} {f1 : Int} {f2 : Int} (h : zI w0 W g f0 f1 f2) : g < W.heap.size := by
 obtain ⟨A0, c0, hb, hg, hr0⟩ := h
 exact yR hb
theorem zI.ge {w0 W : World} {g : Nat} {f0 : List Int} {f1 : Int} {f2 : Int} (h : zI w0 W g f0 f1 f2) : w0.heap.size ≤ g := by
 obtain ⟨A0, c0, hb, hg, hr0⟩ := h
 exact hg.1
theorem zI.far {w0 W : World} {g : Nat} {f0 : List Int} {f1 : Int} {f2 : Int} {p : Addr} (h : zI w0 W g f0 f1 f2) (hne : g ≠ p.block) (u : Value) : zI w0 (W.setCell p u) g f0 f1 f2 := by
 obtain ⟨A0, c0, hb, hg, hr0⟩ := h
 exact ⟨A0, c0, z1t hb hne u, hg, hr0⟩
theorem z3i {W : World} {g : Nat} {A0 : Option Addr} {c0 : Nat} {f0 : List Int} {f1 : Int} {f2 : Int} (h : W.heap[g]? = some (.cells #[.slice A0 f0.length c0, .int .i64 f1, .int .i64 f2] 104 (0, 0))) : W.cell? ⟨g, 0, none⟩ = some (.slice A0 f0.length c0) := (za h 0).trans rfl
theorem z1y {W : World} {g : Nat} {A0 : Option Addr} {c0 : Nat} {f0 : List Int} {f1 : Int} {f2 : Int} (h : W.heap[g]? = some (.cells #[.slice A0 f0.length c0, .int .i64 f1, .int .i64 f2] 104 (0, 0))) : W.cell? ⟨g, 1, none⟩ = some (.int .i64 f1) := (za h 1).trans rfl
theorem zI.zcs {w0 W : World} {g : Nat} {f0 : List Int} {f1 : Int} {f2 : Int} (h : zI w0 W g f0 f1 f2) (x : Int) : zI w0 (W.setCell ⟨g, 1, none⟩ (.int .i64 x)) g f0 x f2 := by
 obtain ⟨A0, c0, hb, hg, hr0⟩ := h
 exact ⟨A0, c0, by simpa using z6d hb 1 (.int .i64 x), hg, hr0⟩
theorem z0s {W : World} {g : Nat} {A0 : Option Addr} {c0 : Nat} {f0 : List Int} {f1 : Int} {f2 : Int} (h : W.heap[g]? = some (.cells #[.slice A0 f0.length c0, .int .i64 f1, .int .i64 f2] 104 (0, 0))) : W.cell? ⟨g, 2, none⟩ = some (.int .i64 f2) := (za h 2).trans rfl
theorem zI.new (w0 W : World) (A0 : Option Addr) (c0 : Nat) (f0 : List Int) (f1 : Int) (f2 : Int) (hB : Below w0.heap.size w0 W) (hr0 : Kd.C (Kd.int .u8) w0 A0 f0.length f0) (hc0 : f0.length ≤ c0) : zI w0 (W.alloc (.cells #[.slice A0 f0.length c0, .int .i64 f1, .int .i64 f2] 104)) W.heap.size f0 f1 f2 := ⟨A0, c0, by simpa using heap_alloc_new W _, ⟨hB.size, hc0⟩, hr0⟩
abbrev Zag (x v : Int) : Prop := (x = 2 ∧ v = 1) ∨ (x = 0 ∧ v = 0) ∨ (x = 4 ∧ v = 2) ∨ (x = 16 ∧ v = 8) ∨ (x = 52 ∧ v = 26)
theorem zbd {x v : Int} (h : Zag x v) (hx : x = 0) {F : Ending} (h0 : F = .returned (.int .i64 0)) : F = .returned (.int .i64 v) := by
 have h1 : v = 0 := by rcases h with ⟨h, _⟩ | ⟨_, h⟩ | ⟨h, _⟩ | ⟨h, _⟩ | ⟨h, _⟩ <;> omega
 rw [h1, h0]
theorem ze3 {x v : Int} (h : Zag x v) : bits BinOp.or IntKind.u64 0 (IntKind.u64.wrap (IntKind.u64.wrap (bits BinOp.and IntKind.u8 x 127))) = x := by
 rcases h with ⟨rfl, rfl⟩ | ⟨rfl, rfl⟩ | ⟨rfl, rfl⟩ | ⟨rfl, rfl⟩ | ⟨rfl, rfl⟩ <;> kernel_rfl
theorem ze4 {x v : Int} (h : Zag x v) : bits BinOp.xor IntKind.i64 (wrap64 (x / 2)) (wrap64 (-wrap64 (bits BinOp.and IntKind.u64 x 1))) = v := by
 rcases h with ⟨rfl, rfl⟩ | ⟨rfl, rfl⟩ | ⟨rfl, rfl⟩ | ⟨rfl, rfl⟩ | ⟨rfl, rfl⟩ <;> kernel_rfl
theorem z7h (p : Nat) (x v : Int) (hp : p < 19) (hx : yj.getD p 0 = x) (hv : Zag x v) (g : Nat) (w0 w : World) (hI : zI w0 w g yj p (-1)) (hB : Below w0.heap.size w0 w) :
 Calls Tryz.prog 63 #[.pointer (some ⟨g, 0, none⟩)] w fun e w' => e = .returned (.int .i64 v) ∧ zI w0 w' g yj (p + 1) (-1) ∧ Below w0.heap.size w0 w' ∧ zu w w' g none := by
 have HI := aS hI
 have HB := aS hB
 obtain ⟨A, c, HG, ⟨hg, hc⟩, HS⟩ := hI
 obtain ⟨ad, rfl, hb⟩ := (Kd.xv (enc := Value.int .u8) (d := (0 : Int)) (h1 := fun _ => rfl) HS).2.2 (by decide)
 replace hb := ze hB (hb p hp)
 rw [hx] at hb
 clear HS hx
 have z0 : w.cell? ⟨g, 0, none⟩ = some (.slice (some ad) 19 c) := z3i HG
 have z1 := z1y HG
 have z2 := z0s HG
 have k0 : decide ((19 : Int) ≤ p) = false := dF (by omega)
 have k1 : decide (19 ≤ p) = false := dF (by omega)
 have f1 := zn HG 1
 have kx : decide (x < 128) = true := dT (by rcases hv with ⟨rfl, _⟩ | ⟨rfl, _⟩ | ⟨rfl, _⟩ | ⟨rfl, _⟩ | ⟨rfl, _⟩ <;> omega)
 have HV := aS hv
 have ku := ze3 hv
 have kv := ze4 hv
 clear hB hc hg hv HG
 go_enter Tryz.func63, Tryz.ntmps63
 go_wp2
 refine wp_loop_rounds 1 ?_
 rw [rounds_succ]
 go_wp2
 repeat (go_quiet (fail); try go_wp2)
 all_goals
  go_ret
  refine ⟨?_, zI.zcs (zI.drewN HI.out _) _, zG (zd HB.out _) HI.out.ge, zu.zb2 (z1g (zu.refl w g none) _) _ _⟩
  first | rfl | (refine zbd HV.out ‹x = 0› ?_; kernel_rfl)
theorem zbV (p : Nat) (x v : Int) (hp : p < 19) (hx : yj.getD p 0 = x) (hv : Zag x v) (hl : v ≤ 18 - p) (g : Nat) (w0 w : World) (hI : zI w0 w g yj p (-1)) (hB : Below w0.heap.size w0 w) :
 Calls Tryz.prog 60 #[.pointer (some ⟨g, 0, none⟩)] w fun e w' => e = .returned (.int .i64 v) ∧ zI w0 w' g yj (p + 1) (-1) ∧ Below w0.heap.size w0 w' ∧ zu w w' g none := by
 have hc := z7h p x v hp hx hv g w0
 have h0 : 0 ≤ v := by rcases hv with ⟨_, rfl⟩ | ⟨_, rfl⟩ | ⟨_, rfl⟩ | ⟨_, rfl⟩ | ⟨_, rfl⟩ <;> decide
 have k0 : decide (v < 0) = false := dF (by omega)
 have k1 : decide (19 - ((p : Int) + 1) < v) = false := dF (by omega)
 have kw : IntKind.i64.wrap (19 - ((p : Int) + 1)) = 19 - ((p : Int) + 1) := IntWalk.i64_in _ (by omega)
 clear hx hv hl
 have HC := aS hc
 have HI := aS hI
 have HB := aS hB
 obtain ⟨A, c, HG, -⟩ := hI
 have z1 := z1y HG
 clear HG hB hc
 go_enter Tryz.func60, Tryz.ntmps60
 go_wp2_with fail
 (with_reducible refine (HC.out _ HI.out HB.out).mono ?_)
 rintro e w1 ⟨rfl, hI1, hB1, hK1⟩
 have HI1 := aS hI1
 have HB1 := aS hB1
 have HK1 := aS hK1
 clear z1
 obtain ⟨A, c, HG, -⟩ := hI1
 have z0 : w1.cell? ⟨g, 0, none⟩ = some (.slice A 19 c) := z3i HG
 have z1 := z1y HG
 have z2 := z0s HG
 clear HG hB1 hK1 HI HB
 go_wp2
 repeat (go_quiet (fail); try go_wp2)
 all_goals go_ret
 all_goals exact ⟨rfl, zI.drewN HI1.out _, zd HB1.out _, z1g HK1.out _⟩
theorem z2j (p : Nat) (q r x v : Int) (hq : q = p) (hr : r = p + 1) (hp : p < 19) (hx : yj.getD p 0 = x) (hv : Zag x v) (g : Nat) (w0 w : World) (hI : zI w0 w g yj q (-1)) (hB : Below w0.heap.size w0 w) :
 Calls Tryz.prog 63 #[.pointer (some ⟨g, 0, none⟩)] w fun e w' => e = .returned (.int .i64 v) ∧ zI w0 w' g yj r (-1) ∧ Below w0.heap.size w0 w' ∧ zu w w' g none := by
 subst hq hr
 exact z7h p x v hp hx hv g w0 w hI hB
theorem z3Q (p : Nat) (q r x v : Int) (hq : q = p) (hr : r = p + 1) (hp : p < 19) (hx : yj.getD p 0 = x) (hv : Zag x v) (hl : v ≤ 18 - p) (g : Nat) (w0 w : World) (hI : zI w0 w g yj q (-1)) (hB : Below w0.heap.size w0 w) :
 Calls Tryz.prog 60 #[.pointer (some ⟨g, 0, none⟩)] w fun e w' => e = .returned (.int .i64 v) ∧ zI w0 w' g yj r (-1) ∧ Below w0.heap.size w0 w' ∧ zu w w' g none := by
 subst hq hr
 exact zbV p x v hp hx hv hl g w0 w hI hB
theorem zc9 (g : Nat) (w0 w : World) (hI : zI w0 w g yj 1 (-1)) (hB : Below w0.heap.size w0 w) :
 Calls Tryz.prog 61 #[.pointer (some ⟨g, 0, none⟩)] w fun e w' => e = .returned (.string ⟨#[102]⟩) ∧ zI w0 w' g yj 3 (-1) ∧ Below w0.heap.size w0 w' ∧ zu w w' g none := by
 have HI := aS hI
 have HB := aS hB
 clear hI hB
 go_enter Tryz.func61, Tryz.ntmps61
 go_wp2_with fail
 (with_reducible refine (z3Q 1 1 2 2 1 rfl rfl (by decide) rfl (by decide) (by decide) g _ _ HI.out HB.out).mono ?_)
 rintro e w1 ⟨rfl, hI1, hB1, hK1⟩
 have HI1 := aS hI1
 have HB1 := aS hB1
 have HK1 := aS hK1
 obtain ⟨A, c, HG, hg, HS⟩ := hI1
 have z0 : w1.cell? ⟨g, 0, none⟩ = some (.slice A 19 c) := z3i HG
 have z1 := z1y HG
 have f1 := zn HG 1
 have k2 : (3 ≤ (c : Int)) = True := eq_true (by have := hg.2; have h19 : yj.length = 19 := rfl; omega)
 have k3 : (3 ≤ c) = True := eq_true (by have := hg.2; have h19 : yj.length = 19 := rfl; omega)
 have hcv : ∀ m, (convert 30 9 (.slice (if c = 2 then A else Option.map (fun x => ({ block := x.block, off := x.off + 2 } : Addr)) A) 1 (c - 2))).run Tryz.prog (w1.drewN m) = .ok (.string ⟨#[102]⟩) (w1.drewN m) := by
  intro m
  have hg2 := hg.2
  have hT := Kd.z62 (m := 3) (Kd.zK HS hB1) (by decide)
  have hD := Kd.zcu (m := 2) (c := c) hT (by decide) (by have h3 : (yj.take 3).length = 3 := rfl; have h19 : yj.length = 19 := rfl; omega)
  exact Kd.z9A (P := Tryz.prog) (c := c - 2) Tryz.underlying30 Tryz.underlying5 Tryz.underlying9 (Kd.z03 hD m)
 clear HG hg HS hB1 hK1 HI HB
 go_wp2
 go_quiet (fail)
 go_wp2
 all_goals refine bodyPost_ret (by simp [results, Tryz.results61, go_sem]) rfl ⟨rfl, zI.zcs (zI.drewN HI1.out _) _, zG (zd HB1.out _) HI1.out.ge, zu.zb2 (z1g HK1.out _) _ _⟩
theorem z5g {α : Type} {d : Kd α} {e base g : Nat} {v : Value} {xs : List α} {w0 W W' : World} {f0 : List Int} {f1 f2 : Int} (hI : zI w0 W g f0 f1 f2) (ho : d.R e W base (fun _ => True) v xs) (hk : zu W W' g none) (ht : ∀ q, q ∈ e :: d.E → q ≠ 104 := by decide) : d.R e W' base (fun _ => True) v xs :=
 Kd.zw (Kd.z9M (hI.apart ho ht) hk (fun _ h => h.2)) (fun _ _ => trivial)
theorem z7e (p : Nat) (hp : p + 1 < 19) (h1 : yj.getD p 0 = 2) (h2 : yj.getD (p + 1) 0 = 0) (g : Nat) (w0 w : World) (hI : zI w0 w g yj p (-1)) (hB : Below w0.heap.size w0 w) :
 Calls Tryz.prog 62 #[.pointer (some ⟨g, 0, none⟩), .int .i64 1] w fun e w' => ∃ v, e = .returned v ∧ Kd.R xC 115 w' w.heap.size (fun _ => True) v [tyR] ∧ zI w0 w' g yj (p + 2) (-1) ∧ Below w0.heap.size w0 w' ∧ zu w w' g none := by
 have hu115 := Tryz.underlying115
 have HI := aS hI
 have HB := aS hB
 have HC := aS (fun W hI hB => z2j p p (p + 1) 2 1 rfl rfl (by omega) h1 (by decide) g w0 W hI hB)
 have HD := aS (fun W hI hB => z3Q (p + 1) (p + 1) (p + 2) 0 0 (by omega) (by omega) (by omega) h2 (by decide) (by omega) g w0 W hI hB)
 obtain ⟨A, c, HG, -⟩ := hI
 have z2 := z0s HG
 clear hB HG h1 h2
 go_enter Tryz.func62, Tryz.ntmps62
 go_wp2
 refine wp_loop_rounds 2 ?_
 rw [rounds_succ]
 go_wp2_with fail
 (with_reducible refine (HC.out _ HI.out HB.out).mono ?_)
 rintro e w1 ⟨rfl, hI1, hB1, hK1⟩
 have HI1 := aS (zI.alloc hI1 (.cells #[.int .i64 1, .slice none 0 0] 115))
 have HB1 := aS (zl hB1 (.cells #[.int .i64 1, .slice none 0 0] 115))
 have HK1 := aS (z0V hK1 (.cells #[.int .i64 1, .slice none 0 0] 115))
 have hne := Nat.ne_of_gt hI1.lt
 have NE := aS hne
 clear hI1 hB1 hK1 z2 hne
 have BT := aS (xt w1 (.cells #[.int .i64 1, .slice none 0 0] 115))
 go_wp2_with fail
 (with_reducible refine (HD.out _ HI1.out HB1.out).mono ?_)
 rintro e w2 ⟨rfl, hI2, hB2, hK2⟩
 have HI2 := aS hI2
 have HB2 := aS hB2
 have HK2 := aS (zu.trans HK1.out hK2 (.inl rfl))
 replace BT := aS (zu.blk hK2 BT.out NE.out (by simp))
 obtain ⟨A, c, HG, -⟩ := hI2
 have z2 := z0s HG
 have b0 := (za BT.out 0).trans rfl
 have b1 := (za BT.out 1).trans rfl
 clear hB2 hK2 HG
 go_wp2
 refine wp_loop_rounds 1 ?_
 rw [rounds_succ]
 go_wp2_with (at_builtin; refine Kd.z0C xC w.heap.size rfl (.tmp 42) (.tmp 44) 47 115 (.agg #[(.int .i64 0), (.slice none 0 0)]) 32 rfl Tryz.underlying47 z2d rfl (by decide) (by omega) (.slice none 0 0) [] tyR [.int .i64 1, .slice none 0 0] (fun _ => True) (fun _ => False) rfl rfl ?aP (fun _ hk => hk.elim) ?aF ?aO (Below.refl _ _) ?aS ?aL ?_)
 case aP => exact z6S _ _ _ tyR (Kd.z0l _ _ _ _ _)
 case aF => exact fun _ _ => trivial
 case aO => exact Kd.z0l _ _ _ _ _
 case aS => exact HK2.out.1
 case aL => decide
 intro v1 w3 hR hb hg hat
 have HR := aS hR
 have HI3 := aS (zI.grown HI2.out hg (by simp [Value.ownBlock]))
 have HB3 := aS (HB2.out.trans (hb.mono HB.out.size))
 have HK3 := aS (zu.trans HK2.out (zu.z2F hg g) (.inl rfl))
 clear hR hb hg hat b0 b1 z2
 obtain ⟨Av, cv, rfl⟩ := Kd.zB HR.out
 go_wp2
 rw [rounds_succ]
 go_wp2
 exact bodyPost_ret (by simp [results, Tryz.results62, go_sem]) rfl ⟨_, rfl, HR.out, HI3.out, HB3.out, HK3.out⟩
theorem z60 (p : Nat) (q r x v : Int) (hq : q = p) (hr : r = p + 1) (hp : p < 19) (hx : yj.getD p 0 = x) (hv : Zag x v) (h1 : 1 ≤ v) (h2 : v ≤ 26) (g : Nat) (w0 w : World) (hI : zI w0 w g yj q (-1)) (hB : Below w0.heap.size w0 w) :
 Calls Tryz.prog 115 #[.pointer (some ⟨g, 0, none⟩), .int .i64 1, .int .i64 26] w fun e w' => e = .returned (.int .i64 v) ∧ zI w0 w' g yj r (-1) ∧ Below w0.heap.size w0 w' ∧ zu w w' g none := by
 have HC := aS (z2j p q r x v hq hr hp hx hv g w0)
 have k0 : decide (v < 1) = false := dF (by omega)
 have k1 : decide (26 < v) = false := dF (by omega)
 have HI := aS hI
 have HB := aS hB
 obtain ⟨A, c, HG, -⟩ := hI
 have z1 := z1y HG
 clear HG hB hq hr hx hv
 go_enter Tryz.func115, Tryz.ntmps115
 go_wp2_with fail
 (with_reducible refine (HC.out _ HI.out HB.out).mono ?_)
 rintro e w1 ⟨rfl, hI1, hB1, hK1⟩
 have HI1 := aS hI1
 have HB1 := aS hB1
 have HK1 := aS hK1
 clear z1
 obtain ⟨A, c, HG, -⟩ := hI1
 have z2 := z0s HG
 clear HG hB1 hK1 HI HB
 go_wp2
 repeat (go_quiet (fail); try go_wp2)
 all_goals go_ret
 all_goals exact ⟨rfl, HI1.out, HB1.out, HK1.out⟩
end
end
section
section
attribute [local go_sem] Instr.index yd zV
theorem zbH (g : Nat) (w0 w : World) (hG : GW w0) (hI : zI w0 w g yj 11 (-1)) (hB : Below w0.heap.size w0 w) :
 Calls Tryz.prog 64 #[.pointer (some ⟨g, 0, none⟩)] w fun e w' => e = .returned (.agg #[.int .i64 8, .int .i64 1, .int .i64 0, .int .i64 0, .int .i64 0, .bool false, .slice none 0 0, .slice none 0 0]) ∧ zI w0 w' g yj 15 (-1) ∧ Below w0.heap.size w0 w' ∧ zu w w' g none := by
 have hu63 := Tryz.underlying63
 have hu72 := Tryz.underlying72
 have hu75 := Tryz.underlying75
 have hu78 := Tryz.underlying78
 have hu61 := Tryz.underlying61
 have HG := aS hG
 have HI := aS (zI.alloc hI (.cells #[.int .i64 0, .int .i64 0, .int .i64 0, .int .i64 0, .int .i64 0, .bool false, .slice none 0 0, .slice none 0 0] 63))
 have HB := aS (zl hB (.cells #[.int .i64 0, .int .i64 0, .int .i64 0, .int .i64 0, .int .i64 0, .bool false, .slice none 0 0, .slice none 0 0] 63))
 have HK := aS (z0V (zu.refl w g none) (.cells #[.int .i64 0, .int .i64 0, .int .i64 0, .int .i64 0, .int .i64 0, .bool false, .slice none 0 0, .slice none 0 0] 63))
 have BR := aS (xt w (.cells #[.int .i64 0, .int .i64 0, .int .i64 0, .int .i64 0, .int .i64 0, .bool false, .slice none 0 0, .slice none 0 0] 63))
 have NR := aS (Nat.ne_of_gt hI.lt)
 have ZR := aS (Nat.le_refl w.heap.size)
 have ZB := aS hB.size
 clear hI hB hG
 go_enter Tryz.func64, Tryz.ntmps64
 go_wp2_with fail
 generalize w.alloc (.cells #[.int .i64 0, .int .i64 0, .int .i64 0, .int .i64 0, .int .i64 0, .bool false, .slice none 0 0, .slice none 0 0] 63) = w1 at HI HB HK BR ⊢
 generalize hgr : w.heap.size = gr at BR NR ZR ⊢
 have ZW : Aside0 (w0.heap.size ≤ gr) := ⟨by have := ZB.out; omega⟩
 replace ZR : Aside0 (w.heap.size ≤ gr) := ⟨by omega⟩
 clear hgr ZB
 (with_reducible refine (z60 11 11 12 16 8 rfl rfl (by decide) rfl (by decide) (by decide) (by decide) g _ _ HI.out HB.out).mono ?_)
 rintro e w2 ⟨rfl, hi, hb, hk⟩
 replace HI := aS hi
 replace HB := aS hb
 replace HK := aS (zu.trans HK.out hk (.inl rfl))
 replace BR := aS (zu.blk hk BR.out NR.out (by simp))
 clear hb hk
 obtain ⟨A, c, hg, -⟩ := hi
 have z2 : ∀ o, (w2.alloc o).cell? ⟨g, 2, none⟩ = some (.int .i64 (-1)) := fun o => (za (zZ hg o) 2).trans rfl
 clear hg A c
 go_wp2_with fail
 clear z2
 have BI := aS (xt w2 (.cells #[.int .i64 8, .int .i64 0, .int .i64 0, .int .i64 0, .int .i64 0, .bool false, .slice none 0 0, .slice none 0 0] 63))
 have NI := aS (Nat.ne_of_gt HI.out.lt)
 have RI := aS (Nat.ne_of_gt (yR BR.out))
 have ZI := aS HK.out.1
 have ZG := aS HB.out.size
 replace HI := aS (HI.out.alloc (.cells #[.int .i64 8, .int .i64 0, .int .i64 0, .int .i64 0, .int .i64 0, .bool false, .slice none 0 0, .slice none 0 0] 63))
 replace HB := aS (zl HB.out (.cells #[.int .i64 8, .int .i64 0, .int .i64 0, .int .i64 0, .int .i64 0, .bool false, .slice none 0 0, .slice none 0 0] 63))
 replace HK := aS (z0V HK.out (.cells #[.int .i64 8, .int .i64 0, .int .i64 0, .int .i64 0, .int .i64 0, .bool false, .slice none 0 0, .slice none 0 0] 63))
 replace BR := aS (zZ BR.out (.cells #[.int .i64 8, .int .i64 0, .int .i64 0, .int .i64 0, .int .i64 0, .bool false, .slice none 0 0, .slice none 0 0] 63))
 generalize w2.alloc (.cells #[.int .i64 8, .int .i64 0, .int .i64 0, .int .i64 0, .int .i64 0, .bool false, .slice none 0 0, .slice none 0 0] 63) = w3 at HI HB HK BR BI ⊢
 generalize w2.heap.size = gi at BI NI RI ZI ZG ⊢
 have hof : xP.f 8 = some (⟨#[109, 117, 108]⟩, 1, 1, 1, false, 0, 0, true) := by kernel_rfl
 (with_reducible refine (xP.calls 8 _ _ _ _ _ _ _ _ _ (HG.out.below HB.out) hof).mono ?_)
 rintro e w4 ⟨rfl, hb⟩
 clear hof
 replace HI := aS (HI.out.below hb)
 replace HB := aS (bs_ HB.out hb)
 replace HK := aS (zu.trans HK.out (zu.z0O hb g none) (.inl rfl))
 replace BR := aS (zf BR.out hb)
 replace BI := aS (zf BI.out hb)
 clear hb
 go_wp2_with fail
 have BS := aS (xt w4 (.cells #[.string ⟨#[109, 117, 108]⟩, .int .i64 1, .int .i64 1, .int .i64 1, .bool false, .int .i64 0, .int .i64 0] 72))
 have NS := aS (Nat.ne_of_gt HI.out.lt)
 replace HI := aS (HI.out.alloc (.cells #[.string ⟨#[109, 117, 108]⟩, .int .i64 1, .int .i64 1, .int .i64 1, .bool false, .int .i64 0, .int .i64 0] 72))
 replace HB := aS (zl HB.out (.cells #[.string ⟨#[109, 117, 108]⟩, .int .i64 1, .int .i64 1, .int .i64 1, .bool false, .int .i64 0, .int .i64 0] 72))
 replace HK := aS (z0V HK.out (.cells #[.string ⟨#[109, 117, 108]⟩, .int .i64 1, .int .i64 1, .int .i64 1, .bool false, .int .i64 0, .int .i64 0] 72))
 replace BR := aS (zZ BR.out (.cells #[.string ⟨#[109, 117, 108]⟩, .int .i64 1, .int .i64 1, .int .i64 1, .bool false, .int .i64 0, .int .i64 0] 72))
 have SI := aS (Nat.ne_of_gt (yR BI.out))
 replace BI := aS (zZ BI.out (.cells #[.string ⟨#[109, 117, 108]⟩, .int .i64 1, .int .i64 1, .int .i64 1, .bool false, .int .i64 0, .int .i64 0] 72))
 generalize w4.alloc (.cells #[.string ⟨#[109, 117, 108]⟩, .int .i64 1, .int .i64 1, .int .i64 1, .bool false, .int .i64 0, .int .i64 0] 72) = w5 at HI HB HK BR BI BS ⊢
 generalize w4.heap.size = gs at BS SI NS ⊢
 (with_reducible refine (z0G _ _ _ _ _ _ _ _).mono ?_)
 rintro e w6 ⟨rfl, hb⟩
 replace HI := aS (HI.out.below hb)
 replace HB := aS (bs_ HB.out hb)
 replace HK := aS (zu.trans HK.out (zu.z0O hb g none) (.inl rfl))
 replace BR := aS (zf BR.out hb)
 replace BI := aS (zf BI.out hb)
 replace BS := aS (zf BS.out hb)
 clear hb
 go_wp2
 refine wp_loop_rounds 4 ?_
 rw [rounds_succ]
 go_wp2
 replace HI := aS HI.out.drew
 replace HB := aS (zD HB.out)
 replace HK := aS (z1V HK.out)
 replace BR := aS (yb BR.out)
 replace BI := aS (yb BI.out)
 replace BS := aS (yb BS.out)
 refine z16 (n := 7) (S := fun w' => True) (ds := []) (mk 7 0) (by kernel_rfl) rfl (by kernel_rfl) trivial (fun hHeld => ?_)
 generalize w6.drew = w7 at HI HB HK BR BI BS ⊢
 refine pu 1 32 (mk 7 2) (by kernel_rfl) ?_
 refine pu 3 34 (mk 7 10) (by kernel_rfl) ?_
 refine z0Z (i := 0) (N := some 31) (mk 7 11) rfl rfl (by kernel_rfl) (by decide) (fun K hK => ?_)
 refine z1C Tryz.func43 (by kernel_rfl) rfl #[.pointer (some ⟨gi, 0, none⟩)] (by rfl) rfl rfl (by (try simp only [List.map_toArray, List.map_cons, List.map_nil]); first | done | rfl) ?_
 with_reducible refine (yi gi _).mono ?_
 rintro e w8 ⟨rfl, hb⟩
 refine ⟨_, rfl, ?_⟩
 replace HI := aS (HI.out.below hb)
 replace HB := aS (bs_ HB.out hb)
 replace HK := aS (zu.trans HK.out (zu.z0O hb g none) (.inl rfl))
 replace BR := aS (zf BR.out hb)
 replace BI := aS (zf BI.out hb)
 replace BS := aS (zf BS.out hb)
 clear hb
 refine hK.out _ _ trivial (fun hHeld => ?_)
 clear hK K
 refine xY (a' := ?_) ?_ ?_
 rotate_left
 ·show Act.put _ (some 31) _ = _
  simp only [Act.put, List.setIfInBounds_toArray, List.set_cons_zero, List.set_cons_succ, yh, yQ]
  rfl
 refine tk 2 33 (mk 7 15) (by kernel_rfl) hHeld ?_
 refine z0Z (i := 4) (N := some 35) (mk 7 31) rfl rfl (by kernel_rfl) (by decide) (fun K hK => ?_)
 refine z1C Tryz.func63 (by kernel_rfl) rfl #[.pointer (some ⟨g, 0, none⟩)] (by rfl) rfl rfl (by (try simp only [List.map_toArray, List.map_cons, List.map_nil]); first | done | rfl) ?_
 with_reducible refine (z2j 12 12 13 2 1 rfl rfl (by decide) rfl (by decide) g _ _ HI.out HB.out).mono ?_
 rintro e w9 ⟨rfl, hi, hb, hk⟩
 refine ⟨_, rfl, ?_⟩
 replace HI := aS hi
 replace HB := aS hb
 replace HK := aS (zu.trans HK.out hk (.inl rfl))
 replace BR := aS (zu.blk hk BR.out NR.out (by simp))
 replace BI := aS (zu.blk hk BI.out NI.out (by simp))
 replace BS := aS (zu.blk hk BS.out NS.out (by simp))
 clear hb hk hi
 refine hK.out _ _ trivial (fun hHeld => ?_)
 clear hK K
 refine xY (a' := ?_) ?_ ?_
 rotate_left
 ·show Act.put _ (some 35) _ = _
  simp only [Act.put, List.setIfInBounds_toArray, List.set_cons_zero, List.set_cons_succ, yh, yQ]
  rfl
 refine pu 5 36 (mk 7 63) (by kernel_rfl) ?_
 refine z0Z (i := 6) (N := none) (mk 7 127) rfl rfl (by kernel_rfl) (by decide) (fun K hK => ?_)
 have hs := (za BI.out 1).trans rfl
 have hf := zn BI.out 1
 refine z1Z (w1 := ?_) (by rfl) rfl ?_ ?_
 rotate_left
 ·go_simp
  rfl
 refine hK.out _ _ trivial (fun hHeld => ?_)
 clear hK K hs hf hHeld
 replace HI := aS (zI.far HI.out (p := ⟨gi, 1, none⟩) (Ne.symm NI.out) (.int .i64 1))
 replace HB := aS (zG (j := 1) (v := .int .i64 1) HB.out ZG.out)
 replace HK := aS (xy HK.out (p := ⟨gi, 1, none⟩) ZI.out (.int .i64 1))
 replace BR := aS (z1t (p := ⟨gi, 1, none⟩) BR.out (Ne.symm RI.out) (.int .i64 1))
 replace BS := aS (z1t (p := ⟨gi, 1, none⟩) BS.out SI.out (.int .i64 1))
 replace BI := aS (yv BI.out 1 (.int .i64 1) rfl)
 generalize w9.setCell ⟨gi, 1, none⟩ (.int .i64 1) = w10 at HI HB HK BR BI BS ⊢
 refine z1U (by kernel_rfl) ?_
 go_wp2
 rw [rounds_succ]
 go_wp2
 replace HI := aS HI.out.drew
 replace HB := aS (zD HB.out)
 replace HK := aS (z1V HK.out)
 replace BR := aS (yb BR.out)
 replace BI := aS (yb BI.out)
 replace BS := aS (yb BS.out)
 refine z16 (n := 7) (S := fun w' => True) (ds := []) (mk 7 0) (by kernel_rfl) rfl (by kernel_rfl) trivial (fun hHeld => ?_)
 generalize w10.drew = w11 at HI HB HK BR BI BS ⊢
 refine pu 1 32 (mk 7 2) (by kernel_rfl) ?_
 refine pu 3 34 (mk 7 10) (by kernel_rfl) ?_
 refine z0Z (i := 0) (N := some 31) (mk 7 11) rfl rfl (by kernel_rfl) (by decide) (fun K hK => ?_)
 refine z1C Tryz.func43 (by kernel_rfl) rfl #[.pointer (some ⟨gi, 0, none⟩)] (by rfl) rfl rfl (by (try simp only [List.map_toArray, List.map_cons, List.map_nil]); first | done | rfl) ?_
 with_reducible refine (yi gi _).mono ?_
 rintro e w12 ⟨rfl, hb⟩
 refine ⟨_, rfl, ?_⟩
 replace HI := aS (HI.out.below hb)
 replace HB := aS (bs_ HB.out hb)
 replace HK := aS (zu.trans HK.out (zu.z0O hb g none) (.inl rfl))
 replace BR := aS (zf BR.out hb)
 replace BI := aS (zf BI.out hb)
 replace BS := aS (zf BS.out hb)
 clear hb
 refine hK.out _ _ trivial (fun hHeld => ?_)
 clear hK K
 refine xY (a' := ?_) ?_ ?_
 rotate_left
 ·show Act.put _ (some 31) _ = _
  simp only [Act.put, List.setIfInBounds_toArray, List.set_cons_zero, List.set_cons_succ, yh, yQ]
  rfl
 refine tk 2 33 (mk 7 15) (by kernel_rfl) hHeld ?_
 refine z0Z (i := 4) (N := some 35) (mk 7 31) rfl rfl (by kernel_rfl) (by decide) (fun K hK => ?_)
 refine z1C Tryz.func63 (by kernel_rfl) rfl #[.pointer (some ⟨g, 0, none⟩)] (by rfl) rfl rfl (by (try simp only [List.map_toArray, List.map_cons, List.map_nil]); first | done | rfl) ?_
 with_reducible refine (z2j 13 13 14 0 0 rfl rfl (by decide) rfl (by decide) g _ _ HI.out HB.out).mono ?_
 rintro e w13 ⟨rfl, hi, hb, hk⟩
 refine ⟨_, rfl, ?_⟩
 replace HI := aS hi
 replace HB := aS hb
 replace HK := aS (zu.trans HK.out hk (.inl rfl))
 replace BR := aS (zu.blk hk BR.out NR.out (by simp))
 replace BI := aS (zu.blk hk BI.out NI.out (by simp))
 replace BS := aS (zu.blk hk BS.out NS.out (by simp))
 clear hb hk hi
 refine hK.out _ _ trivial (fun hHeld => ?_)
 clear hK K
 refine xY (a' := ?_) ?_ ?_
 rotate_left
 ·show Act.put _ (some 35) _ = _
  simp only [Act.put, List.setIfInBounds_toArray, List.set_cons_zero, List.set_cons_succ, yh, yQ]
  rfl
 refine pu 5 36 (mk 7 63) (by kernel_rfl) ?_
 refine z0Z (i := 6) (N := none) (mk 7 127) rfl rfl (by kernel_rfl) (by decide) (fun K hK => ?_)
 have hs := (za BI.out 2).trans rfl
 have hf := zn BI.out 2
 refine z1Z (w1 := ?_) (by rfl) rfl ?_ ?_
 rotate_left
 ·go_simp
  rfl
 refine hK.out _ _ trivial (fun hHeld => ?_)
 clear hK K hs hf hHeld
 replace HI := aS (zI.far HI.out (p := ⟨gi, 2, none⟩) (Ne.symm NI.out) (.int .i64 0))
 replace HB := aS (zG (j := 2) (v := .int .i64 0) HB.out ZG.out)
 replace HK := aS (xy HK.out (p := ⟨gi, 2, none⟩) ZI.out (.int .i64 0))
 replace BR := aS (z1t (p := ⟨gi, 2, none⟩) BR.out (Ne.symm RI.out) (.int .i64 0))
 replace BS := aS (z1t (p := ⟨gi, 2, none⟩) BS.out SI.out (.int .i64 0))
 replace BI := aS (yv BI.out 2 (.int .i64 0) rfl)
 generalize w13.setCell ⟨gi, 2, none⟩ (.int .i64 0) = w14 at HI HB HK BR BI BS ⊢
 refine z1U (by kernel_rfl) ?_
 go_wp2
 rw [rounds_succ]
 go_wp2
 replace HI := aS HI.out.drew
 replace HB := aS (zD HB.out)
 replace HK := aS (z1V HK.out)
 replace BR := aS (yb BR.out)
 replace BI := aS (yb BI.out)
 replace BS := aS (yb BS.out)
 refine z16 (n := 7) (S := fun w' => True) (ds := []) (mk 7 0) (by kernel_rfl) rfl (by kernel_rfl) trivial (fun hHeld => ?_)
 generalize w14.drew = w15 at HI HB HK BR BI BS ⊢
 refine pu 1 32 (mk 7 2) (by kernel_rfl) ?_
 refine pu 3 34 (mk 7 10) (by kernel_rfl) ?_
 refine z0Z (i := 0) (N := some 31) (mk 7 11) rfl rfl (by kernel_rfl) (by decide) (fun K hK => ?_)
 refine z1C Tryz.func43 (by kernel_rfl) rfl #[.pointer (some ⟨gi, 0, none⟩)] (by rfl) rfl rfl (by (try simp only [List.map_toArray, List.map_cons, List.map_nil]); first | done | rfl) ?_
 with_reducible refine (yi gi _).mono ?_
 rintro e w16 ⟨rfl, hb⟩
 refine ⟨_, rfl, ?_⟩
 replace HI := aS (HI.out.below hb)
 replace HB := aS (bs_ HB.out hb)
 replace HK := aS (zu.trans HK.out (zu.z0O hb g none) (.inl rfl))
 replace BR := aS (zf BR.out hb)
 replace BI := aS (zf BI.out hb)
 replace BS := aS (zf BS.out hb)
 clear hb
 refine hK.out _ _ trivial (fun hHeld => ?_)
 clear hK K
 refine xY (a' := ?_) ?_ ?_
 rotate_left
 ·show Act.put _ (some 31) _ = _
  simp only [Act.put, List.setIfInBounds_toArray, List.set_cons_zero, List.set_cons_succ, yh, yQ]
  rfl
 refine tk 2 33 (mk 7 15) (by kernel_rfl) hHeld ?_
 refine z0Z (i := 4) (N := some 35) (mk 7 31) rfl rfl (by kernel_rfl) (by decide) (fun K hK => ?_)
 refine z1C Tryz.func63 (by kernel_rfl) rfl #[.pointer (some ⟨g, 0, none⟩)] (by rfl) rfl rfl (by (try simp only [List.map_toArray, List.map_cons, List.map_nil]); first | done | rfl) ?_
 with_reducible refine (z2j 14 14 15 0 0 rfl rfl (by decide) rfl (by decide) g _ _ HI.out HB.out).mono ?_
 rintro e w17 ⟨rfl, hi, hb, hk⟩
 refine ⟨_, rfl, ?_⟩
 replace HI := aS hi
 replace HB := aS hb
 replace HK := aS (zu.trans HK.out hk (.inl rfl))
 replace BR := aS (zu.blk hk BR.out NR.out (by simp))
 replace BI := aS (zu.blk hk BI.out NI.out (by simp))
 replace BS := aS (zu.blk hk BS.out NS.out (by simp))
 clear hb hk hi
 refine hK.out _ _ trivial (fun hHeld => ?_)
 clear hK K
 refine xY (a' := ?_) ?_ ?_
 rotate_left
 ·show Act.put _ (some 35) _ = _
  simp only [Act.put, List.setIfInBounds_toArray, List.set_cons_zero, List.set_cons_succ, yh, yQ]
  rfl
 refine pu 5 36 (mk 7 63) (by kernel_rfl) ?_
 refine z0Z (i := 6) (N := none) (mk 7 127) rfl rfl (by kernel_rfl) (by decide) (fun K hK => ?_)
 have hs := (za BI.out 3).trans rfl
 have hf := zn BI.out 3
 refine z1Z (w1 := ?_) (by rfl) rfl ?_ ?_
 rotate_left
 ·go_simp
  rfl
 refine hK.out _ _ trivial (fun hHeld => ?_)
 clear hK K hs hf hHeld
 replace HI := aS (zI.far HI.out (p := ⟨gi, 3, none⟩) (Ne.symm NI.out) (.int .i64 0))
 replace HB := aS (zG (j := 3) (v := .int .i64 0) HB.out ZG.out)
 replace HK := aS (xy HK.out (p := ⟨gi, 3, none⟩) ZI.out (.int .i64 0))
 replace BR := aS (z1t (p := ⟨gi, 3, none⟩) BR.out (Ne.symm RI.out) (.int .i64 0))
 replace BS := aS (z1t (p := ⟨gi, 3, none⟩) BS.out SI.out (.int .i64 0))
 replace BI := aS (yv BI.out 3 (.int .i64 0) rfl)
 generalize w17.setCell ⟨gi, 3, none⟩ (.int .i64 0) = w18 at HI HB HK BR BI BS ⊢
 refine z1U (by kernel_rfl) ?_
 go_wp2
 rw [rounds_succ]
 have s4 := (za BS.out 4).trans rfl
 have i0 := (za BI.out 0).trans rfl
 have i1 := (za BI.out 1).trans rfl
 have i2 := (za BI.out 2).trans rfl
 have i3 := (za BI.out 3).trans rfl
 have i4 := (za BI.out 4).trans rfl
 have i5 := (za BI.out 5).trans rfl
 have i6 := (za BI.out 6).trans rfl
 have i7 := (za BI.out 7).trans rfl
 have r0 := (za BR.out 0).trans rfl
 have f0 := zn BR.out 0
 have r1 := (za BR.out 1).trans rfl
 have f1 := zn BR.out 1
 have r2 := (za BR.out 2).trans rfl
 have f2 := zn BR.out 2
 have r3 := (za BR.out 3).trans rfl
 have f3 := zn BR.out 3
 have r4 := (za BR.out 4).trans rfl
 have f4 := zn BR.out 4
 have r5 := (za BR.out 5).trans rfl
 have f5 := zn BR.out 5
 have r6 := (za BR.out 6).trans rfl
 have f6 := zn BR.out 6
 have r7 := (za BR.out 7).trans rfl
 have f7 := zn BR.out 7
 have nir := RI.out
 have nri := Ne.symm RI.out
 go_wp2
 replace BR := aS (yv (yv (yv (yv (yv (yv (yv (yv BR.out 0 (.int .i64 8) rfl) 1 (.int .i64 1) rfl) 2 (.int .i64 0) rfl) 3 (.int .i64 0) rfl) 4 (.int .i64 0) rfl) 5 (.bool false) rfl) 6 (.slice none 0 0) rfl) 7 (.slice none 0 0) rfl)
 replace HI := aS (zI.far (p := ⟨gr, 7, none⟩) (zI.far (p := ⟨gr, 6, none⟩) (zI.far (p := ⟨gr, 5, none⟩) (zI.far (p := ⟨gr, 4, none⟩) (zI.far (p := ⟨gr, 3, none⟩) (zI.far (p := ⟨gr, 2, none⟩) (zI.far (p := ⟨gr, 1, none⟩) (zI.far (p := ⟨gr, 0, none⟩) HI.out (Ne.symm NR.out) (.int .i64 8)) (Ne.symm NR.out) (.int .i64 1)) (Ne.symm NR.out) (.int .i64 0)) (Ne.symm NR.out) (.int .i64 0)) (Ne.symm NR.out) (.int .i64 0)) (Ne.symm NR.out) (.bool false)) (Ne.symm NR.out) (.slice none 0 0)) (Ne.symm NR.out) (.slice none 0 0))
 replace HB := aS (zG (j := 7) (v := .slice none 0 0) (zG (j := 6) (v := .slice none 0 0) (zG (j := 5) (v := .bool false) (zG (j := 4) (v := .int .i64 0) (zG (j := 3) (v := .int .i64 0) (zG (j := 2) (v := .int .i64 0) (zG (j := 1) (v := .int .i64 1) (zG (j := 0) (v := .int .i64 8) HB.out ZW.out) ZW.out) ZW.out) ZW.out) ZW.out) ZW.out) ZW.out) ZW.out)
 replace HK := aS (xy (xy (xy (xy (xy (xy (xy (xy HK.out (p := ⟨gr, 0, none⟩) ZR.out (.int .i64 8)) (p := ⟨gr, 1, none⟩) ZR.out (.int .i64 1)) (p := ⟨gr, 2, none⟩) ZR.out (.int .i64 0)) (p := ⟨gr, 3, none⟩) ZR.out (.int .i64 0)) (p := ⟨gr, 4, none⟩) ZR.out (.int .i64 0)) (p := ⟨gr, 5, none⟩) ZR.out (.bool false)) (p := ⟨gr, 6, none⟩) ZR.out (.slice none 0 0)) (p := ⟨gr, 7, none⟩) ZR.out (.slice none 0 0))
 clear r0 r1 r2 r3 r4 r5 r6 r7 f0 f1 f2 f3 f4 f5 f6 f7 i0 i1 i2 i3 i4 i5 i6 i7 s4 nir nri
 generalize (World.setCell (World.setCell (World.setCell (World.setCell (World.setCell (World.setCell (World.setCell (World.setCell w18 ⟨gr, 0, none⟩ (.int .i64 8)) ⟨gr, 1, none⟩ (.int .i64 1)) ⟨gr, 2, none⟩ (.int .i64 0)) ⟨gr, 3, none⟩ (.int .i64 0)) ⟨gr, 4, none⟩ (.int .i64 0)) ⟨gr, 5, none⟩ (.bool false)) ⟨gr, 6, none⟩ (.slice none 0 0)) ⟨gr, 7, none⟩ (.slice none 0 0)) = wz at HI HB HK BR ⊢
 have e0 := (za BR.out 0).trans rfl
 have e1 := (za BR.out 1).trans rfl
 have e2 := (za BR.out 2).trans rfl
 have e3 := (za BR.out 3).trans rfl
 have e4 := (za BR.out 4).trans rfl
 have e5 := (za BR.out 5).trans rfl
 have e6 := (za BR.out 6).trans rfl
 have e7 := (za BR.out 7).trans rfl
 refine bodyPost_ret (by simp [results, Tryz.results64, go_sem, e0, e1, e2, e3, e4, e5, e6, e7]) rfl ⟨rfl, HI.out, HB.out, HK.out⟩
theorem zbJ (g : Nat) (w0 w : World) (hG : GW w0) (hI : zI w0 w g yj 15 (-1)) (hB : Below w0.heap.size w0 w) :
 Calls Tryz.prog 64 #[.pointer (some ⟨g, 0, none⟩)] w fun e w' => e = .returned (.agg #[.int .i64 26, .int .i64 1, .int .i64 0, .int .i64 0, .int .i64 0, .bool false, .slice none 0 0, .slice none 0 0]) ∧ zI w0 w' g yj 17 (-1) ∧ Below w0.heap.size w0 w' ∧ zu w w' g none := by
 have hu63 := Tryz.underlying63
 have hu72 := Tryz.underlying72
 have hu75 := Tryz.underlying75
 have hu78 := Tryz.underlying78
 have hu61 := Tryz.underlying61
 have HG := aS hG
 have HI := aS (zI.alloc hI (.cells #[.int .i64 0, .int .i64 0, .int .i64 0, .int .i64 0, .int .i64 0, .bool false, .slice none 0 0, .slice none 0 0] 63))
 have HB := aS (zl hB (.cells #[.int .i64 0, .int .i64 0, .int .i64 0, .int .i64 0, .int .i64 0, .bool false, .slice none 0 0, .slice none 0 0] 63))
 have HK := aS (z0V (zu.refl w g none) (.cells #[.int .i64 0, .int .i64 0, .int .i64 0, .int .i64 0, .int .i64 0, .bool false, .slice none 0 0, .slice none 0 0] 63))
 have BR := aS (xt w (.cells #[.int .i64 0, .int .i64 0, .int .i64 0, .int .i64 0, .int .i64 0, .bool false, .slice none 0 0, .slice none 0 0] 63))
 have NR := aS (Nat.ne_of_gt hI.lt)
 have ZR := aS (Nat.le_refl w.heap.size)
 have ZB := aS hB.size
 clear hI hB hG
 go_enter Tryz.func64, Tryz.ntmps64
 go_wp2_with fail
 generalize w.alloc (.cells #[.int .i64 0, .int .i64 0, .int .i64 0, .int .i64 0, .int .i64 0, .bool false, .slice none 0 0, .slice none 0 0] 63) = w1 at HI HB HK BR ⊢
 generalize hgr : w.heap.size = gr at BR NR ZR ⊢
 have ZW : Aside0 (w0.heap.size ≤ gr) := ⟨by have := ZB.out; omega⟩
 replace ZR : Aside0 (w.heap.size ≤ gr) := ⟨by omega⟩
 clear hgr ZB
 (with_reducible refine (z60 15 15 16 52 26 rfl rfl (by decide) rfl (by decide) (by decide) (by decide) g _ _ HI.out HB.out).mono ?_)
 rintro e w2 ⟨rfl, hi, hb, hk⟩
 replace HI := aS hi
 replace HB := aS hb
 replace HK := aS (zu.trans HK.out hk (.inl rfl))
 replace BR := aS (zu.blk hk BR.out NR.out (by simp))
 clear hb hk
 obtain ⟨A, c, hg, -⟩ := hi
 have z2 : ∀ o, (w2.alloc o).cell? ⟨g, 2, none⟩ = some (.int .i64 (-1)) := fun o => (za (zZ hg o) 2).trans rfl
 clear hg A c
 go_wp2_with fail
 clear z2
 have BI := aS (xt w2 (.cells #[.int .i64 26, .int .i64 0, .int .i64 0, .int .i64 0, .int .i64 0, .bool false, .slice none 0 0, .slice none 0 0] 63))
 have NI := aS (Nat.ne_of_gt HI.out.lt)
 have RI := aS (Nat.ne_of_gt (yR BR.out))
 have ZI := aS HK.out.1
 have ZG := aS HB.out.size
 replace HI := aS (HI.out.alloc (.cells #[.int .i64 26, .int .i64 0, .int .i64 0, .int .i64 0, .int .i64 0, .bool false, .slice none 0 0, .slice none 0 0] 63))
 replace HB := aS (zl HB.out (.cells #[.int .i64 26, .int .i64 0, .int .i64 0, .int .i64 0, .int .i64 0, .bool false, .slice none 0 0, .slice none 0 0] 63))
 replace HK := aS (z0V HK.out (.cells #[.int .i64 26, .int .i64 0, .int .i64 0, .int .i64 0, .int .i64 0, .bool false, .slice none 0 0, .slice none 0 0] 63))
 replace BR := aS (zZ BR.out (.cells #[.int .i64 26, .int .i64 0, .int .i64 0, .int .i64 0, .int .i64 0, .bool false, .slice none 0 0, .slice none 0 0] 63))
 generalize w2.alloc (.cells #[.int .i64 26, .int .i64 0, .int .i64 0, .int .i64 0, .int .i64 0, .bool false, .slice none 0 0, .slice none 0 0] 63) = w3 at HI HB HK BR BI ⊢
 generalize w2.heap.size = gi at BI NI RI ZI ZG ⊢
 have hof : xP.f 26 = some (⟨#[114, 101, 116, 117, 114, 110]⟩, 6, 0, 0, false, 0, 0, true) := by kernel_rfl
 (with_reducible refine (xP.calls 26 _ _ _ _ _ _ _ _ _ (HG.out.below HB.out) hof).mono ?_)
 rintro e w4 ⟨rfl, hb⟩
 clear hof
 replace HI := aS (HI.out.below hb)
 replace HB := aS (bs_ HB.out hb)
 replace HK := aS (zu.trans HK.out (zu.z0O hb g none) (.inl rfl))
 replace BR := aS (zf BR.out hb)
 replace BI := aS (zf BI.out hb)
 clear hb
 go_wp2_with fail
 have BS := aS (xt w4 (.cells #[.string ⟨#[114, 101, 116, 117, 114, 110]⟩, .int .i64 6, .int .i64 0, .int .i64 0, .bool false, .int .i64 0, .int .i64 0] 72))
 have NS := aS (Nat.ne_of_gt HI.out.lt)
 replace HI := aS (HI.out.alloc (.cells #[.string ⟨#[114, 101, 116, 117, 114, 110]⟩, .int .i64 6, .int .i64 0, .int .i64 0, .bool false, .int .i64 0, .int .i64 0] 72))
 replace HB := aS (zl HB.out (.cells #[.string ⟨#[114, 101, 116, 117, 114, 110]⟩, .int .i64 6, .int .i64 0, .int .i64 0, .bool false, .int .i64 0, .int .i64 0] 72))
 replace HK := aS (z0V HK.out (.cells #[.string ⟨#[114, 101, 116, 117, 114, 110]⟩, .int .i64 6, .int .i64 0, .int .i64 0, .bool false, .int .i64 0, .int .i64 0] 72))
 replace BR := aS (zZ BR.out (.cells #[.string ⟨#[114, 101, 116, 117, 114, 110]⟩, .int .i64 6, .int .i64 0, .int .i64 0, .bool false, .int .i64 0, .int .i64 0] 72))
 have SI := aS (Nat.ne_of_gt (yR BI.out))
 replace BI := aS (zZ BI.out (.cells #[.string ⟨#[114, 101, 116, 117, 114, 110]⟩, .int .i64 6, .int .i64 0, .int .i64 0, .bool false, .int .i64 0, .int .i64 0] 72))
 generalize w4.alloc (.cells #[.string ⟨#[114, 101, 116, 117, 114, 110]⟩, .int .i64 6, .int .i64 0, .int .i64 0, .bool false, .int .i64 0, .int .i64 0] 72) = w5 at HI HB HK BR BI BS ⊢
 generalize w4.heap.size = gs at BS SI NS ⊢
 (with_reducible refine (z0G _ _ _ _ _ _ _ _).mono ?_)
 rintro e w6 ⟨rfl, hb⟩
 replace HI := aS (HI.out.below hb)
 replace HB := aS (bs_ HB.out hb)
 replace HK := aS (zu.trans HK.out (zu.z0O hb g none) (.inl rfl))
 replace BR := aS (zf BR.out hb)
 replace BI := aS (zf BI.out hb)
 replace BS := aS (zf BS.out hb)
 clear hb
 go_wp2
 refine wp_loop_rounds 4 ?_
 rw [rounds_succ]
 go_wp2
 replace HI := aS HI.out.drew
 replace HB := aS (zD HB.out)
 replace HK := aS (z1V HK.out)
 replace BR := aS (yb BR.out)
 replace BI := aS (yb BI.out)
 replace BS := aS (yb BS.out)
 refine z16 (n := 7) (S := fun w' => True) (ds := []) (mk 7 0) (by kernel_rfl) rfl (by kernel_rfl) trivial (fun hHeld => ?_)
 generalize w6.drew = w7 at HI HB HK BR BI BS ⊢
 refine pu 1 32 (mk 7 2) (by kernel_rfl) ?_
 refine pu 3 34 (mk 7 10) (by kernel_rfl) ?_
 refine z0Z (i := 0) (N := some 31) (mk 7 11) rfl rfl (by kernel_rfl) (by decide) (fun K hK => ?_)
 refine z1C Tryz.func43 (by kernel_rfl) rfl #[.pointer (some ⟨gi, 0, none⟩)] (by rfl) rfl rfl (by (try simp only [List.map_toArray, List.map_cons, List.map_nil]); first | done | rfl) ?_
 with_reducible refine (yi gi _).mono ?_
 rintro e w8 ⟨rfl, hb⟩
 refine ⟨_, rfl, ?_⟩
 replace HI := aS (HI.out.below hb)
 replace HB := aS (bs_ HB.out hb)
 replace HK := aS (zu.trans HK.out (zu.z0O hb g none) (.inl rfl))
 replace BR := aS (zf BR.out hb)
 replace BI := aS (zf BI.out hb)
 replace BS := aS (zf BS.out hb)
 clear hb
 refine hK.out _ _ trivial (fun hHeld => ?_)
 clear hK K
 refine xY (a' := ?_) ?_ ?_
 rotate_left
 ·show Act.put _ (some 31) _ = _
  simp only [Act.put, List.setIfInBounds_toArray, List.set_cons_zero, List.set_cons_succ, yh, yQ]
  rfl
 refine tk 2 33 (mk 7 15) (by kernel_rfl) hHeld ?_
 refine z0Z (i := 4) (N := some 35) (mk 7 31) rfl rfl (by kernel_rfl) (by decide) (fun K hK => ?_)
 refine z1C Tryz.func63 (by kernel_rfl) rfl #[.pointer (some ⟨g, 0, none⟩)] (by rfl) rfl rfl (by (try simp only [List.map_toArray, List.map_cons, List.map_nil]); first | done | rfl) ?_
 with_reducible refine (z2j 16 16 17 2 1 rfl rfl (by decide) rfl (by decide) g _ _ HI.out HB.out).mono ?_
 rintro e w9 ⟨rfl, hi, hb, hk⟩
 refine ⟨_, rfl, ?_⟩
 replace HI := aS hi
 replace HB := aS hb
 replace HK := aS (zu.trans HK.out hk (.inl rfl))
 replace BR := aS (zu.blk hk BR.out NR.out (by simp))
 replace BI := aS (zu.blk hk BI.out NI.out (by simp))
 replace BS := aS (zu.blk hk BS.out NS.out (by simp))
 clear hb hk hi
 refine hK.out _ _ trivial (fun hHeld => ?_)
 clear hK K
 refine xY (a' := ?_) ?_ ?_
 rotate_left
 ·show Act.put _ (some 35) _ = _
  simp only [Act.put, List.setIfInBounds_toArray, List.set_cons_zero, List.set_cons_succ, yh, yQ]
  rfl
 refine pu 5 36 (mk 7 63) (by kernel_rfl) ?_
 refine z0Z (i := 6) (N := none) (mk 7 127) rfl rfl (by kernel_rfl) (by decide) (fun K hK => ?_)
 have hs := (za BI.out 1).trans rfl
 have hf := zn BI.out 1
 refine z1Z (w1 := ?_) (by rfl) rfl ?_ ?_
 rotate_left
 ·go_simp
  rfl
 refine hK.out _ _ trivial (fun hHeld => ?_)
 clear hK K hs hf hHeld
 replace HI := aS (zI.far HI.out (p := ⟨gi, 1, none⟩) (Ne.symm NI.out) (.int .i64 1))
 replace HB := aS (zG (j := 1) (v := .int .i64 1) HB.out ZG.out)
 replace HK := aS (xy HK.out (p := ⟨gi, 1, none⟩) ZI.out (.int .i64 1))
 replace BR := aS (z1t (p := ⟨gi, 1, none⟩) BR.out (Ne.symm RI.out) (.int .i64 1))
 replace BS := aS (z1t (p := ⟨gi, 1, none⟩) BS.out SI.out (.int .i64 1))
 replace BI := aS (yv BI.out 1 (.int .i64 1) rfl)
 generalize w9.setCell ⟨gi, 1, none⟩ (.int .i64 1) = w10 at HI HB HK BR BI BS ⊢
 refine z1U (by kernel_rfl) ?_
 go_wp2
 rw [rounds_succ]
 go_wp2
 rw [rounds_succ]
 go_wp2
 rw [rounds_succ]
 have s4 := (za BS.out 4).trans rfl
 have i0 := (za BI.out 0).trans rfl
 have i1 := (za BI.out 1).trans rfl
 have i2 := (za BI.out 2).trans rfl
 have i3 := (za BI.out 3).trans rfl
 have i4 := (za BI.out 4).trans rfl
 have i5 := (za BI.out 5).trans rfl
 have i6 := (za BI.out 6).trans rfl
 have i7 := (za BI.out 7).trans rfl
 have r0 := (za BR.out 0).trans rfl
 have f0 := zn BR.out 0
 have r1 := (za BR.out 1).trans rfl
 have f1 := zn BR.out 1
 have r2 := (za BR.out 2).trans rfl
 have f2 := zn BR.out 2
 have r3 := (za BR.out 3).trans rfl
 have f3 := zn BR.out 3
 have r4 := (za BR.out 4).trans rfl
 have f4 := zn BR.out 4
 have r5 := (za BR.out 5).trans rfl
 have f5 := zn BR.out 5
 have r6 := (za BR.out 6).trans rfl
 have f6 := zn BR.out 6
 have r7 := (za BR.out 7).trans rfl
 have f7 := zn BR.out 7
 have nir := RI.out
 have nri := Ne.symm RI.out
 go_wp2
 replace BR := aS (yv (yv (yv (yv (yv (yv (yv (yv BR.out 0 (.int .i64 26) rfl) 1 (.int .i64 1) rfl) 2 (.int .i64 0) rfl) 3 (.int .i64 0) rfl) 4 (.int .i64 0) rfl) 5 (.bool false) rfl) 6 (.slice none 0 0) rfl) 7 (.slice none 0 0) rfl)
 replace HI := aS (zI.far (p := ⟨gr, 7, none⟩) (zI.far (p := ⟨gr, 6, none⟩) (zI.far (p := ⟨gr, 5, none⟩) (zI.far (p := ⟨gr, 4, none⟩) (zI.far (p := ⟨gr, 3, none⟩) (zI.far (p := ⟨gr, 2, none⟩) (zI.far (p := ⟨gr, 1, none⟩) (zI.far (p := ⟨gr, 0, none⟩) HI.out (Ne.symm NR.out) (.int .i64 26)) (Ne.symm NR.out) (.int .i64 1)) (Ne.symm NR.out) (.int .i64 0)) (Ne.symm NR.out) (.int .i64 0)) (Ne.symm NR.out) (.int .i64 0)) (Ne.symm NR.out) (.bool false)) (Ne.symm NR.out) (.slice none 0 0)) (Ne.symm NR.out) (.slice none 0 0))
 replace HB := aS (zG (j := 7) (v := .slice none 0 0) (zG (j := 6) (v := .slice none 0 0) (zG (j := 5) (v := .bool false) (zG (j := 4) (v := .int .i64 0) (zG (j := 3) (v := .int .i64 0) (zG (j := 2) (v := .int .i64 0) (zG (j := 1) (v := .int .i64 1) (zG (j := 0) (v := .int .i64 26) HB.out ZW.out) ZW.out) ZW.out) ZW.out) ZW.out) ZW.out) ZW.out) ZW.out)
 replace HK := aS (xy (xy (xy (xy (xy (xy (xy (xy HK.out (p := ⟨gr, 0, none⟩) ZR.out (.int .i64 26)) (p := ⟨gr, 1, none⟩) ZR.out (.int .i64 1)) (p := ⟨gr, 2, none⟩) ZR.out (.int .i64 0)) (p := ⟨gr, 3, none⟩) ZR.out (.int .i64 0)) (p := ⟨gr, 4, none⟩) ZR.out (.int .i64 0)) (p := ⟨gr, 5, none⟩) ZR.out (.bool false)) (p := ⟨gr, 6, none⟩) ZR.out (.slice none 0 0)) (p := ⟨gr, 7, none⟩) ZR.out (.slice none 0 0))
 clear r0 r1 r2 r3 r4 r5 r6 r7 f0 f1 f2 f3 f4 f5 f6 f7 i0 i1 i2 i3 i4 i5 i6 i7 s4 nir nri
 generalize (World.setCell (World.setCell (World.setCell (World.setCell (World.setCell (World.setCell (World.setCell (World.setCell w10 ⟨gr, 0, none⟩ (.int .i64 26)) ⟨gr, 1, none⟩ (.int .i64 1)) ⟨gr, 2, none⟩ (.int .i64 0)) ⟨gr, 3, none⟩ (.int .i64 0)) ⟨gr, 4, none⟩ (.int .i64 0)) ⟨gr, 5, none⟩ (.bool false)) ⟨gr, 6, none⟩ (.slice none 0 0)) ⟨gr, 7, none⟩ (.slice none 0 0)) = wz at HI HB HK BR ⊢
 have e0 := (za BR.out 0).trans rfl
 have e1 := (za BR.out 1).trans rfl
 have e2 := (za BR.out 2).trans rfl
 have e3 := (za BR.out 3).trans rfl
 have e4 := (za BR.out 4).trans rfl
 have e5 := (za BR.out 5).trans rfl
 have e6 := (za BR.out 6).trans rfl
 have e7 := (za BR.out 7).trans rfl
 refine bodyPost_ret (by simp [results, Tryz.results64, go_sem, e0, e1, e2, e3, e4, e5, e6, e7]) rfl ⟨rfl, HI.out, HB.out, HK.out⟩
end
end
end Go.Proofs.QP

