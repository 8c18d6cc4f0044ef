import Derived.Test.YtbkknoipgmlcmaaGreatDoorQGM3
set_option linter.all false
set_option maxHeartbeats 8000000
set_option maxRecDepth 100000
namespace Go.Proofs.QP
open Go.RowKit Go.Proofs.PW Go.Proofs.PL Go.Proofs.PM Go.Proofs.FX
section
attribute [local go_sem] yd zV
attribute [local go_sem] xf xg xD xE yI yJ xl xm
def z0c.f (a0 : Int) : Option (Bool) := if a0 = 4 then (some true) else (some (a0 == 11))
theorem z0c.calls (a0 : Int) (r : Bool) (w : World) (h : z0c.f a0 = some r) :
 Calls Tryz.prog 175 #[.int .i64 a0] w fun e w' => e = .returned (.bool r) ∧ zj w w' := by
 have H := h
 unfold z0c.f at H
 clear h
 by_cases c2 : a0 = 4
 ·rw [if_pos c2] at H
  have c2b0 := bT c2
  have c2b1 := nF c2
  clear c2
  obtain rfl := sI H
  go_enter Tryz.func175, Tryz.ntmps175
  go_wp2
  go_ret
  exact ⟨by first | rfl | (simp; done) | (simp [*]; done), by repeat (first | exact zj.refl _ | apply zj.step)⟩
 ·rw [if_neg c2] at H
  have c2b0 := bF c2
  have c2b1 := nT c2
  obtain rfl := sI H
  go_enter Tryz.func175, Tryz.ntmps175
  go_wp2
  go_ret
  exact ⟨by first | rfl | (simp; done) | (simp [*]; done), by repeat (first | exact zj.refl _ | apply zj.step)⟩
def ym.l0 : Nat → List (List Int) → Int → Int → Option (Int)
 | 0, _, _, _ => none
 | k + 1, x5, x6, x7 => if x7 < x6 then (if 0 ≤ x7 then (if x7 < (x5.length : Int) then (if ((z0y x5 x7).length : Int) > 512 then (some 3) else (if ((z0y x5 x7).length : Int) > 0 then (if 0 ≤ (wrap64 (((z0y x5 x7).length : Int) - 1)) then (if (wrap64 (((z0y x5 x7).length : Int) - 1)) < ((z0y x5 x7).length : Int) then (if (rd (z0y x5 x7) (wrap64 (((z0y x5 x7).length : Int) - 1))) = 0 then (some 5) else (ym.l0 k x5 x6 (wrap64 (x7 + 1)))) else (none)) else (none)) else (ym.l0 k x5 x6 (wrap64 (x7 + 1))))) else (none)) else (none)) else (some 0)
def ym.f (k : Nat) (l0 : List (List Int)) : Option (Int) := ym.l0 k l0 (l0.length : Int) 0
theorem ym.calls (k : Nat) (A0 : Option Addr) (c0 : Nat) (l0 : List (List Int)) (r : Int) (w : World) (hr0 : Kd.C (Kd.slice 145 (Kd.int .u32)) w A0 l0.length l0) (hc0 : l0.length ≤ c0) (h : ym.f k l0 = some r) :
 Calls Tryz.prog 188 #[.slice A0 l0.length c0] w fun e w' => e = .returned (.int .i64 r) ∧ zj w w' := by
 have HR0 := aS hr0
 have HC0 := aS hc0
 clear hr0 hc0
 have H := h
 unfold ym.f at H
 clear h
 have H' := aS H
 clear H
 go_enter Tryz.func188, Tryz.ntmps188
 go_wp2
 go_loopg [7] k (fun kq v7 w' => ∃ (x7_1 : Int), v7 = .int .i64 x7_1 ∧ Aside0 (ym.l0 kq l0 (l0.length : Int) x7_1 = some r) ∧ Aside0 (kq ≤ k) ∧ zj w w')
 case atStart => exact ⟨(0), rs, H', ⟨Nat.le_refl _⟩, by repeat (first | exact zj.refl _ | apply zj.step)⟩
 case round =>
  clear H'
  obtain ⟨x7_1, rfl, HA, HK1, ⟨m1, rfl⟩⟩ := hrel
  cases gk with
  | zero => exact absurd HA.out (by simp [ym.l0])
  | succ k1 =>
   have H := HA.out
   clear HA
   simp only [ym.l0] at H
   by_cases c2 : x7_1 < (l0.length : Int); rotate_left
   ·rw [if_neg c2] at H
    have c2b0 := dF c2
    clear c2
    obtain rfl := sI H
    go_wp2
    go_ret
    exact ⟨by first | rfl | (simp; done) | (simp [*]; done), by repeat (first | exact zj.refl _ | apply zj.step)⟩
   rw [if_pos c2] at H
   have c2b0 := dT c2
   clear c2
   replace H := iD_ H
   obtain ⟨c3b0, H⟩ := H
   replace H := iD_ H
   obtain ⟨c4b0, H⟩ := H
   by_cases c5 : ((z0y l0 x7_1).length : Int) > 512
   ·rw [if_pos c5] at H
    have c5b0 := dT c5
    have c5b1 : decide (512 < (z0y l0 x7_1).length) = true := dT (by omega)
    clear c5
    obtain rfl := sI H
    obtain ⟨ad168, A168_0, c168_0, e168, hx168_0, hl168_0, hi168_0⟩ := z8j HR0.out x7_1 oa oa
    cases e168
    have HR168_0 := aS hi168_0
    have HC168_0 := aS hl168_0
    clear hi168_0 hl168_0
    have p168 : (0 ≤ (x7_1 : Int)) = True := tO
    have q168 : (x7_1 < (l0.length : Int)) = True := tO
    go_wp2
    go_ret
    exact ⟨by first | rfl | (simp; done) | (simp [*]; done), by repeat (first | exact zj.refl _ | apply zj.step)⟩
   rw [if_neg c5] at H
   have c5b0 := dF c5
   have c5b1 : decide (512 < (z0y l0 x7_1).length) = false := dF (by omega)
   clear c5
   by_cases c6 : ((z0y l0 x7_1).length : Int) > 0; rotate_left
   ·rw [if_neg c6] at H
    have c6b0 := dF c6
    have c6b1 : decide (0 < (z0y l0 x7_1).length) = false := dF (by omega)
    clear c6
    have H' := aS H
    clear H
    obtain ⟨ad168, A168_0, c168_0, e168, hx168_0, hl168_0, hi168_0⟩ := z8j HR0.out x7_1 oa oa
    cases e168
    have HR168_0 := aS hi168_0
    have HC168_0 := aS hl168_0
    clear hi168_0 hl168_0
    have p168 : (0 ≤ (x7_1 : Int)) = True := tO
    have q168 : (x7_1 < (l0.length : Int)) = True := tO
    go_wp2
    go_roundg k1
    case measure => have := HK1.out; omega
    case rel => exact ⟨(wrap64 (x7_1 + 1)), rs, H', ⟨by have := HK1.out; omega⟩, by repeat (first | exact zj.refl _ | apply zj.step)⟩
   rw [if_pos c6] at H
   have c6b0 := dT c6
   have c6b1 : decide (0 < (z0y l0 x7_1).length) = true := dT (by omega)
   clear c6
   obtain ⟨ji7, hji7⟩ : ∃ j_ : Int, (wrap64 (((z0y l0 x7_1).length : Int) - 1)) = j_ := ⟨_, rfl⟩
   simp only [hji7] at H
   have hji7w : (IntKind.i64.wrap (((z0y l0 x7_1).length : Int) - 1)) = ji7 := (yh _).trans hji7
   replace H := iD_ H
   obtain ⟨c8b0, H⟩ := H
   replace H := iD_ H
   obtain ⟨c9b0, H⟩ := H
   by_cases c10 : (rd (z0y l0 x7_1) (ji7)) = 0
   ·rw [if_pos c10] at H
    have c10b0 := bT c10
    have c10b1 := nF c10
    clear c10
    obtain rfl := sI H
    obtain ⟨ad168, A168_0, c168_0, e168, hx168_0, hl168_0, hi168_0⟩ := z8j HR0.out x7_1 oa oa
    cases e168
    have HR168_0 := aS hi168_0
    have HC168_0 := aS hl168_0
    clear hi168_0 hl168_0
    have p168 : (0 ≤ (x7_1 : Int)) = True := tO
    have q168 : (x7_1 < (l0.length : Int)) = True := tO
    obtain ⟨ad169, e169, hx169_0⟩ := Kd.zT HR168_0.out (ji7) oa oa
    cases e169
    have p169 : (0 ≤ ((ji7) : Int)) = True := tO
    have q169 : ((ji7) < ((z0y l0 x7_1).length : Int)) = True := tO
    go_wp2
    go_ret
    exact ⟨by first | rfl | (simp; done) | (simp only [← hji7] <;> (first | rfl | simp)) | (simp [*]; done), by repeat (first | exact zj.refl _ | apply zj.step)⟩
   ·rw [if_neg c10] at H
    have c10b0 := bF c10
    have c10b1 := nT c10
    have H' := aS H
    clear H
    obtain ⟨ad168, A168_0, c168_0, e168, hx168_0, hl168_0, hi168_0⟩ := z8j HR0.out x7_1 oa oa
    cases e168
    have HR168_0 := aS hi168_0
    have HC168_0 := aS hl168_0
    clear hi168_0 hl168_0
    have p168 : (0 ≤ (x7_1 : Int)) = True := tO
    have q168 : (x7_1 < (l0.length : Int)) = True := tO
    obtain ⟨ad169, e169, hx169_0⟩ := Kd.zT HR168_0.out (ji7) oa oa
    cases e169
    have p169 : (0 ≤ ((ji7) : Int)) = True := tO
    have q169 : ((ji7) < ((z0y l0 x7_1).length : Int)) = True := tO
    go_wp2
    go_roundg k1
    case measure => have := HK1.out; omega
    case rel => exact ⟨(wrap64 (x7_1 + 1)), rs, H', ⟨by have := HK1.out; omega⟩, by repeat (first | exact zj.refl _ | apply zj.step)⟩
def xH.f (k : Nat) (l0 : List Int) : Option (Bool) := (ym.f k (([l0] : List (List Int)))).bind fun t173 => (some (t173 == 0))
theorem xH.calls (k : Nat) (P0_ : Nat → Prop) (A0 : Option Addr) (c0 : Nat) (l0 : List Int) (r : Bool) (w : World) (hs0 : Kd.V (Kd.int .u32) 145 w w.heap.size (fun k_ => P0_ k_) (.slice A0 l0.length c0) l0) (h : xH.f k l0 = some r) :
 Calls Tryz.prog 176 #[.slice A0 l0.length c0] w fun e w' => e = .returned (.bool r) ∧ Below w.heap.size w w' := by
 have HO0 := aS (show Kd.V (Kd.int .u32) 145 w w.heap.size (fun k_ => (P0_ k_ ∨ w.heap.size ≤ k_)) (.slice A0 l0.length c0) l0 from Kd.xi hs0 (fun k_ hk => .inl hk))
 have HB := hR w
 have H := h
 unfold xH.f at H
 clear h
 obtain ⟨y170, Ny170⟩ := yE (([l0] : List (List Int)) : List (List Int))
 rw [← Ny170.out] at H
 replace H := bA H
 obtain ⟨t173, A2, H⟩ := H
 obtain rfl := sI H
 go_enter Tryz.func176, Tryz.ntmps176
 go_wp2_with (first | ((with_reducible refine zq (N := 4) rfl ?_); refine Kd.z3W (Kd.slice 145 (Kd.int .u32)) _ 59 ?hg (N' := 4) ?hd (xs := ([l0] : List (List Int))) (inner := [.slice A0 l0.length c0]) (ok := (fun k_ => (P0_ k_ ∨ w.heap.size ≤ k_))) (okp := (fun k_ => (P0_ k_ ∨ w.heap.size ≤ k_))) ?hr ?hp (fun _ hk => hk) ((show ∀ k_, w.heap.size ≤ k_ → (fun k_ => (P0_ k_ ∨ w.heap.size ≤ k_)) k_ from fun k_ hk => (.inr (Nat.le_trans (zg (bl HB)) hk))) _ (Nat.le_refl _)) (Below.refl _ _) (Nat.le_refl _) (by simp) ?_; (case hd => rfl); (case hg => rfl); (case hr => first | (go_simp; done) | (go_simp; rfl)); (case hp => exact (zQ.one (show Kd.FK (Kd.slice 145 (Kd.int .u32)) _ _ l0 [.slice A0 l0.length c0] from (Kd.z0B (Kd.zM (Kd.xi (ok' := (fun k_ => (P0_ k_ ∨ w.heap.size ≤ k_))) (HO0.out) (fun k_ hk => hk))).2.1 (Kd.V_F (Kd.xi (ok' := (fun k_ => (P0_ k_ ∨ w.heap.size ≤ k_))) (HO0.out) (fun k_ hk => hk))))) (zQ.none _ _))); intro v171 w3 ho4 hb hg_ hnew_; clear hg_ hnew_; (first | rw [← Ny170.out] at ho4 | (simp only [Int.reduceToNat] at ho4; rw [← Ny170.out] at ho4)); replace HO0 := aS (Kd.yy (by exact vA HO0.out) (Kd.z0i ho4) hb); have HO172 := aS (Kd.z0H ho4 (zg (bl HB))); replace HB := hB_ HB hb; clear hb ho4; obtain ⟨Ao5, co5, eo5⟩ := Kd.z0x HO172.out; subst eo5) | ((with_reducible refine zi (f := 188) rfl ?_); refine gl 5 Tryz.func188 #[.slice Ao5 y170.length co5] ?_; (with_reducible refine (ym.calls k _ _ y170 t173 _ ?side1 ?side2 A2.out).mono ?_); (case side1 => exact cA ((Kd.yD HO172.out).2.2)); (case side2 => exact (Kd.yD HO172.out).2.1); rintro e w' ⟨rfl, ⟨nd, rfl⟩⟩; refine ⟨_, rfl, ?_⟩))
 go_ret
 exact ⟨re, bl HB⟩
def xI.f (a0 : Int) : Option (Int) := if a0 ≥ 65536 then (if (a0 / 65536) ≥ 256 then (if 0 ≤ (((a0 / 65536) / 256) % 256) then (if (((a0 / 65536) / 256) % 256) < 256 then (some (wrap64 ((16 + 8) + (wrap64 (bt (⟨#[0, 1, 2, 2, 3, 3, 3, 3, 4, 4, 4, 4, 4, 4, 4, 4, 5, 5, 5, 5, 5, 5, 5, 5, 5, 5, 5, 5, 5, 5, 5, 5, 6, 6, 6, 6, 6, 6, 6, 6, 6, 6, 6, 6, 6, 6, 6, 6, 6, 6, 6, 6, 6, 6, 6, 6, 6, 6, 6, 6, 6, 6, 6, 6, 7, 7, 7, 7, 7, 7, 7, 7, 7, 7, 7, 7, 7, 7, 7, 7, 7, 7, 7, 7, 7, 7, 7, 7, 7, 7, 7, 7, 7, 7, 7, 7, 7, 7, 7, 7, 7, 7, 7, 7, 7, 7, 7, 7, 7, 7, 7, 7, 7, 7, 7, 7, 7, 7, 7, 7, 7, 7, 7, 7, 7, 7, 7, 7, 8, 8, 8, 8, 8, 8, 8, 8, 8, 8, 8, 8, 8, 8, 8, 8, 8, 8, 8, 8, 8, 8, 8, 8, 8, 8, 8, 8, 8, 8, 8, 8, 8, 8, 8, 8, 8, 8, 8, 8, 8, 8, 8, 8, 8, 8, 8, 8, 8, 8, 8, 8, 8, 8, 8, 8, 8, 8, 8, 8, 8, 8, 8, 8, 8, 8, 8, 8, 8, 8, 8, 8, 8, 8, 8, 8, 8, 8, 8, 8, 8, 8, 8, 8, 8, 8, 8, 8, 8, 8, 8, 8, 8, 8, 8, 8, 8, 8, 8, 8, 8, 8, 8, 8, 8, 8, 8, 8, 8, 8, 8, 8, 8, 8, 8, 8, 8, 8, 8, 8, 8, 8, 8, 8, 8, 8, 8, 8]⟩ : ByteArray) (((a0 / 65536) / 256) % 256)))))) else (none)) else (none)) else (if 0 ≤ ((a0 / 65536) % 256) then (if ((a0 / 65536) % 256) < 256 then (some (wrap64 (16 + (wrap64 (bt (⟨#[0, 1, 2, 2, 3, 3, 3, 3, 4, 4, 4, 4, 4, 4, 4, 4, 5, 5, 5, 5, 5, 5, 5, 5, 5, 5, 5, 5, 5, 5, 5, 5, 6, 6, 6, 6, 6, 6, 6, 6, 6, 6, 6, 6, 6, 6, 6, 6, 6, 6, 6, 6, 6, 6, 6, 6, 6, 6, 6, 6, 6, 6, 6, 6, 7, 7, 7, 7, 7, 7, 7, 7, 7, 7, 7, 7, 7, 7, 7, 7, 7, 7, 7, 7, 7, 7, 7, 7, 7, 7, 7, 7, 7, 7, 7, 7, 7, 7, 7, 7, 7, 7, 7, 7, 7, 7, 7, 7, 7, 7, 7, 7, 7, 7, 7, 7, 7, 7, 7, 7, 7, 7, 7, 7, 7, 7, 7, 7, 8, 8, 8, 8, 8, 8, 8, 8, 8, 8, 8, 8, 8, 8, 8, 8, 8, 8, 8, 8, 8, 8, 8, 8, 8, 8, 8, 8, 8, 8, 8, 8, 8, 8, 8, 8, 8, 8, 8, 8, 8, 8, 8, 8, 8, 8, 8, 8, 8, 8, 8, 8, 8, 8, 8, 8, 8, 8, 8, 8, 8, 8, 8, 8, 8, 8, 8, 8, 8, 8, 8, 8, 8, 8, 8, 8, 8, 8, 8, 8, 8, 8, 8, 8, 8, 8, 8, 8, 8, 8, 8, 8, 8, 8, 8, 8, 8, 8, 8, 8, 8, 8, 8, 8, 8, 8, 8, 8, 8, 8, 8, 8, 8, 8, 8, 8, 8, 8, 8, 8, 8, 8, 8, 8, 8, 8, 8, 8]⟩ : ByteArray) ((a0 / 65536) % 256)))))) else (none)) else (none))) else (if a0 ≥ 256 then (if 0 ≤ ((a0 / 256) % 256) then (if ((a0 / 256) % 256) < 256 then (some (wrap64 ((0 + 8) + (wrap64 (bt (⟨#[0, 1, 2, 2, 3, 3, 3, 3, 4, 4, 4, 4, 4, 4, 4, 4, 5, 5, 5, 5, 5, 5, 5, 5, 5, 5, 5, 5, 5, 5, 5, 5, 6, 6, 6, 6, 6, 6, 6, 6, 6, 6, 6, 6, 6, 6, 6, 6, 6, 6, 6, 6, 6, 6, 6, 6, 6, 6, 6, 6, 6, 6, 6, 6, 7, 7, 7, 7, 7, 7, 7, 7, 7, 7, 7, 7, 7, 7, 7, 7, 7, 7, 7, 7, 7, 7, 7, 7, 7, 7, 7, 7, 7, 7, 7, 7, 7, 7, 7, 7, 7, 7, 7, 7, 7, 7, 7, 7, 7, 7, 7, 7, 7, 7, 7, 7, 7, 7, 7, 7, 7, 7, 7, 7, 7, 7, 7, 7, 8, 8, 8, 8, 8, 8, 8, 8, 8, 8, 8, 8, 8, 8, 8, 8, 8, 8, 8, 8, 8, 8, 8, 8, 8, 8, 8, 8, 8, 8, 8, 8, 8, 8, 8, 8, 8, 8, 8, 8, 8, 8, 8, 8, 8, 8, 8, 8, 8, 8, 8, 8, 8, 8, 8, 8, 8, 8, 8, 8, 8, 8, 8, 8, 8, 8, 8, 8, 8, 8, 8, 8, 8, 8, 8, 8, 8, 8, 8, 8, 8, 8, 8, 8, 8, 8, 8, 8, 8, 8, 8, 8, 8, 8, 8, 8, 8, 8, 8, 8, 8, 8, 8, 8, 8, 8, 8, 8, 8, 8, 8, 8, 8, 8, 8, 8, 8, 8, 8, 8, 8, 8, 8, 8, 8, 8, 8, 8]⟩ : ByteArray) ((a0 / 256) % 256)))))) else (none)) else (none)) else (if 0 ≤ ((a0) % 256) then (if ((a0) % 256) < 256 then (some (wrap64 (0 + (wrap64 (bt (⟨#[0, 1, 2, 2, 3, 3, 3, 3, 4, 4, 4, 4, 4, 4, 4, 4, 5, 5, 5, 5, 5, 5, 5, 5, 5, 5, 5, 5, 5, 5, 5, 5, 6, 6, 6, 6, 6, 6, 6, 6, 6, 6, 6, 6, 6, 6, 6, 6, 6, 6, 6, 6, 6, 6, 6, 6, 6, 6, 6, 6, 6, 6, 6, 6, 7, 7, 7, 7, 7, 7, 7, 7, 7, 7, 7, 7, 7, 7, 7, 7, 7, 7, 7, 7, 7, 7, 7, 7, 7, 7, 7, 7, 7, 7, 7, 7, 7, 7, 7, 7, 7, 7, 7, 7, 7, 7, 7, 7, 7, 7, 7, 7, 7, 7, 7, 7, 7, 7, 7, 7, 7, 7, 7, 7, 7, 7, 7, 7, 8, 8, 8, 8, 8, 8, 8, 8, 8, 8, 8, 8, 8, 8, 8, 8, 8, 8, 8, 8, 8, 8, 8, 8, 8, 8, 8, 8, 8, 8, 8, 8, 8, 8, 8, 8, 8, 8, 8, 8, 8, 8, 8, 8, 8, 8, 8, 8, 8, 8, 8, 8, 8, 8, 8, 8, 8, 8, 8, 8, 8, 8, 8, 8, 8, 8, 8, 8, 8, 8, 8, 8, 8, 8, 8, 8, 8, 8, 8, 8, 8, 8, 8, 8, 8, 8, 8, 8, 8, 8, 8, 8, 8, 8, 8, 8, 8, 8, 8, 8, 8, 8, 8, 8, 8, 8, 8, 8, 8, 8, 8, 8, 8, 8, 8, 8, 8, 8, 8, 8, 8, 8, 8, 8, 8, 8, 8, 8]⟩ : ByteArray) ((a0) % 256)))))) else (none)) else (none)))
theorem xI.calls (a0 : Int) (r : Int) (w : World) (h : xI.f a0 = some r) :
 Calls Tryz.prog 244 #[.int .u32 a0] w fun e w' => e = .returned (.int .i64 r) ∧ zj w w' := by
 have H := h
 unfold xI.f at H
 clear h
 by_cases c2 : a0 ≥ 65536; rotate_left
 ·rw [if_neg c2] at H
  have c2b0 := dF c2
  clear c2
  by_cases c12 : a0 ≥ 256; rotate_left
  ·rw [if_neg c12] at H
   have c12b0 := dF c12
   clear c12
   obtain ⟨ji17, hji17⟩ : ∃ j_ : Int, ((a0) % 256) = j_ := ⟨_, rfl⟩
   simp only [hji17] at H
   replace H := iD_ H
   obtain ⟨c18b0, H⟩ := H
   replace H := iD_ H
   obtain ⟨c19b0, H⟩ := H
   obtain rfl := sI H
   have p20 : 0 ≤ ((ji17) : Int) := oa
   have q20 : (ji17) < (256 : Int) := oa
   have hx20 := z8o (⟨#[0, 1, 2, 2, 3, 3, 3, 3, 4, 4, 4, 4, 4, 4, 4, 4, 5, 5, 5, 5, 5, 5, 5, 5, 5, 5, 5, 5, 5, 5, 5, 5, 6, 6, 6, 6, 6, 6, 6, 6, 6, 6, 6, 6, 6, 6, 6, 6, 6, 6, 6, 6, 6, 6, 6, 6, 6, 6, 6, 6, 6, 6, 6, 6, 7, 7, 7, 7, 7, 7, 7, 7, 7, 7, 7, 7, 7, 7, 7, 7, 7, 7, 7, 7, 7, 7, 7, 7, 7, 7, 7, 7, 7, 7, 7, 7, 7, 7, 7, 7, 7, 7, 7, 7, 7, 7, 7, 7, 7, 7, 7, 7, 7, 7, 7, 7, 7, 7, 7, 7, 7, 7, 7, 7, 7, 7, 7, 7, 8, 8, 8, 8, 8, 8, 8, 8, 8, 8, 8, 8, 8, 8, 8, 8, 8, 8, 8, 8, 8, 8, 8, 8, 8, 8, 8, 8, 8, 8, 8, 8, 8, 8, 8, 8, 8, 8, 8, 8, 8, 8, 8, 8, 8, 8, 8, 8, 8, 8, 8, 8, 8, 8, 8, 8, 8, 8, 8, 8, 8, 8, 8, 8, 8, 8, 8, 8, 8, 8, 8, 8, 8, 8, 8, 8, 8, 8, 8, 8, 8, 8, 8, 8, 8, 8, 8, 8, 8, 8, 8, 8, 8, 8, 8, 8, 8, 8, 8, 8, 8, 8, 8, 8, 8, 8, 8, 8, 8, 8, 8, 8, 8, 8, 8, 8, 8, 8, 8, 8, 8, 8, 8, 8, 8, 8, 8, 8]⟩ : ByteArray) (ji17)
   replace p20 := eq_true p20
   replace q20 := eq_true q20
   go_enter Tryz.func244, Tryz.ntmps244
   go_wp2
   go_ret
   exact ⟨by first | rfl | (simp; done) | (simp only [← hji17] <;> (first | rfl | simp)) | (simp [*]; done), by repeat (first | exact zj.refl _ | apply zj.step)⟩
  rw [if_pos c12] at H
  have c12b0 := dT c12
  clear c12
  obtain ⟨ji13, hji13⟩ : ∃ j_ : Int, ((a0 / 256) % 256) = j_ := ⟨_, rfl⟩
  simp only [hji13] at H
  replace H := iD_ H
  obtain ⟨c14b0, H⟩ := H
  replace H := iD_ H
  obtain ⟨c15b0, H⟩ := H
  obtain rfl := sI H
  have p16 : 0 ≤ ((ji13) : Int) := oa
  have q16 : (ji13) < (256 : Int) := oa
  have hx16 := z8o (⟨#[0, 1, 2, 2, 3, 3, 3, 3, 4, 4, 4, 4, 4, 4, 4, 4, 5, 5, 5, 5, 5, 5, 5, 5, 5, 5, 5, 5, 5, 5, 5, 5, 6, 6, 6, 6, 6, 6, 6, 6, 6, 6, 6, 6, 6, 6, 6, 6, 6, 6, 6, 6, 6, 6, 6, 6, 6, 6, 6, 6, 6, 6, 6, 6, 7, 7, 7, 7, 7, 7, 7, 7, 7, 7, 7, 7, 7, 7, 7, 7, 7, 7, 7, 7, 7, 7, 7, 7, 7, 7, 7, 7, 7, 7, 7, 7, 7, 7, 7, 7, 7, 7, 7, 7, 7, 7, 7, 7, 7, 7, 7, 7, 7, 7, 7, 7, 7, 7, 7, 7, 7, 7, 7, 7, 7, 7, 7, 7, 8, 8, 8, 8, 8, 8, 8, 8, 8, 8, 8, 8, 8, 8, 8, 8, 8, 8, 8, 8, 8, 8, 8, 8, 8, 8, 8, 8, 8, 8, 8, 8, 8, 8, 8, 8, 8, 8, 8, 8, 8, 8, 8, 8, 8, 8, 8, 8, 8, 8, 8, 8, 8, 8, 8, 8, 8, 8, 8, 8, 8, 8, 8, 8, 8, 8, 8, 8, 8, 8, 8, 8, 8, 8, 8, 8, 8, 8, 8, 8, 8, 8, 8, 8, 8, 8, 8, 8, 8, 8, 8, 8, 8, 8, 8, 8, 8, 8, 8, 8, 8, 8, 8, 8, 8, 8, 8, 8, 8, 8, 8, 8, 8, 8, 8, 8, 8, 8, 8, 8, 8, 8, 8, 8, 8, 8, 8, 8]⟩ : ByteArray) (ji13)
  replace p16 := eq_true p16
  replace q16 := eq_true q16
  go_enter Tryz.func244, Tryz.ntmps244
  go_wp2
  go_ret
  exact ⟨by first | rfl | (simp; done) | (simp only [← hji13] <;> (first | rfl | simp)) | (simp [*]; done), by repeat (first | exact zj.refl _ | apply zj.step)⟩
 rw [if_pos c2] at H
 have c2b0 := dT c2
 clear c2
 by_cases c3 : (a0 / 65536) ≥ 256; rotate_left
 ·rw [if_neg c3] at H
  have c3b0 := dF c3
  clear c3
  obtain ⟨ji8, hji8⟩ : ∃ j_ : Int, ((a0 / 65536) % 256) = j_ := ⟨_, rfl⟩
  simp only [hji8] at H
  replace H := iD_ H
  obtain ⟨c9b0, H⟩ := H
  replace H := iD_ H
  obtain ⟨c10b0, H⟩ := H
  obtain rfl := sI H
  have p11 : 0 ≤ ((ji8) : Int) := oa
  have q11 : (ji8) < (256 : Int) := oa
  have hx11 := z8o (⟨#[0, 1, 2, 2, 3, 3, 3, 3, 4, 4, 4, 4, 4, 4, 4, 4, 5, 5, 5, 5, 5, 5, 5, 5, 5, 5, 5, 5, 5, 5, 5, 5, 6, 6, 6, 6, 6, 6, 6, 6, 6, 6, 6, 6, 6, 6, 6, 6, 6, 6, 6, 6, 6, 6, 6, 6, 6, 6, 6, 6, 6, 6, 6, 6, 7, 7, 7, 7, 7, 7, 7, 7, 7, 7, 7, 7, 7, 7, 7, 7, 7, 7, 7, 7, 7, 7, 7, 7, 7, 7, 7, 7, 7, 7, 7, 7, 7, 7, 7, 7, 7, 7, 7, 7, 7, 7, 7, 7, 7, 7, 7, 7, 7, 7, 7, 7, 7, 7, 7, 7, 7, 7, 7, 7, 7, 7, 7, 7, 8, 8, 8, 8, 8, 8, 8, 8, 8, 8, 8, 8, 8, 8, 8, 8, 8, 8, 8, 8, 8, 8, 8, 8, 8, 8, 8, 8, 8, 8, 8, 8, 8, 8, 8, 8, 8, 8, 8, 8, 8, 8, 8, 8, 8, 8, 8, 8, 8, 8, 8, 8, 8, 8, 8, 8, 8, 8, 8, 8, 8, 8, 8, 8, 8, 8, 8, 8, 8, 8, 8, 8, 8, 8, 8, 8, 8, 8, 8, 8, 8, 8, 8, 8, 8, 8, 8, 8, 8, 8, 8, 8, 8, 8, 8, 8, 8, 8, 8, 8, 8, 8, 8, 8, 8, 8, 8, 8, 8, 8, 8, 8, 8, 8, 8, 8, 8, 8, 8, 8, 8, 8, 8, 8, 8, 8, 8, 8]⟩ : ByteArray) (ji8)
  replace p11 := eq_true p11
  replace q11 := eq_true q11
  go_enter Tryz.func244, Tryz.ntmps244
  go_wp2
  go_ret
  exact ⟨by first | rfl | (simp; done) | (simp only [← hji8] <;> (first | rfl | simp)) | (simp [*]; done), by repeat (first | exact zj.refl _ | apply zj.step)⟩
 rw [if_pos c3] at H
 have c3b0 := dT c3
 clear c3
 obtain ⟨ji4, hji4⟩ : ∃ j_ : Int, (((a0 / 65536) / 256) % 256) = j_ := ⟨_, rfl⟩
 simp only [hji4] at H
 replace H := iD_ H
 obtain ⟨c5b0, H⟩ := H
 replace H := iD_ H
 obtain ⟨c6b0, H⟩ := H
 obtain rfl := sI H
 have p7 : 0 ≤ ((ji4) : Int) := oa
 have q7 : (ji4) < (256 : Int) := oa
 have hx7 := z8o (⟨#[0, 1, 2, 2, 3, 3, 3, 3, 4, 4, 4, 4, 4, 4, 4, 4, 5, 5, 5, 5, 5, 5, 5, 5, 5, 5, 5, 5, 5, 5, 5, 5, 6, 6, 6, 6, 6, 6, 6, 6, 6, 6, 6, 6, 6, 6, 6, 6, 6, 6, 6, 6, 6, 6, 6, 6, 6, 6, 6, 6, 6, 6, 6, 6, 7, 7, 7, 7, 7, 7, 7, 7, 7, 7, 7, 7, 7, 7, 7, 7, 7, 7, 7, 7, 7, 7, 7, 7, 7, 7, 7, 7, 7, 7, 7, 7, 7, 7, 7, 7, 7, 7, 7, 7, 7, 7, 7, 7, 7, 7, 7, 7, 7, 7, 7, 7, 7, 7, 7, 7, 7, 7, 7, 7, 7, 7, 7, 7, 8, 8, 8, 8, 8, 8, 8, 8, 8, 8, 8, 8, 8, 8, 8, 8, 8, 8, 8, 8, 8, 8, 8, 8, 8, 8, 8, 8, 8, 8, 8, 8, 8, 8, 8, 8, 8, 8, 8, 8, 8, 8, 8, 8, 8, 8, 8, 8, 8, 8, 8, 8, 8, 8, 8, 8, 8, 8, 8, 8, 8, 8, 8, 8, 8, 8, 8, 8, 8, 8, 8, 8, 8, 8, 8, 8, 8, 8, 8, 8, 8, 8, 8, 8, 8, 8, 8, 8, 8, 8, 8, 8, 8, 8, 8, 8, 8, 8, 8, 8, 8, 8, 8, 8, 8, 8, 8, 8, 8, 8, 8, 8, 8, 8, 8, 8, 8, 8, 8, 8, 8, 8, 8, 8, 8, 8, 8, 8]⟩ : ByteArray) (ji4)
 replace p7 := eq_true p7
 replace q7 := eq_true q7
 go_enter Tryz.func244, Tryz.ntmps244
 go_wp2
 go_ret
 exact ⟨by first | rfl | (simp; done) | (simp only [← hji4] <;> (first | rfl | simp)) | (simp [*]; done), by repeat (first | exact zj.refl _ | apply zj.step)⟩
def z1l.f (l0 : List Int) : Option (Int) := if (l0.length : Int) = 0 then (some 0) else (if 0 ≤ (wrap64 ((l0.length : Int) - 1)) then (if (wrap64 ((l0.length : Int) - 1)) < (l0.length : Int) then ((xI.f (rd l0 (wrap64 ((l0.length : Int) - 1)))).bind fun t175 => (some (wrap64 ((wrap64 (32 * (wrap64 ((l0.length : Int) - 1)))) + t175)))) else (none)) else (none))
theorem z1l.calls (A0 : Option Addr) (c0 : Nat) (l0 : List Int) (r : Int) (w : World) (hr0 : Kd.C (Kd.int .u32) w A0 l0.length l0) (hc0 : l0.length ≤ c0) (h : z1l.f l0 = some r) :
 Calls Tryz.prog 234 #[.slice A0 l0.length c0] w fun e w' => e = .returned (.int .i64 r) ∧ zj w w' := by
 have HR0 := aS hr0
 have HC0 := aS hc0
 clear hr0 hc0
 have H := h
 unfold z1l.f at H
 clear h
 by_cases c2 : (l0.length : Int) = 0
 ·rw [if_pos c2] at H
  have c2b0 := bT c2
  have c2b1 := nF c2
  clear c2
  obtain rfl := sI H
  go_enter Tryz.func234, Tryz.ntmps234
  go_wp2
  go_ret
  exact ⟨by first | rfl | (simp; done) | (simp [*]; done), by repeat (first | exact zj.refl _ | apply zj.step)⟩
 rw [if_neg c2] at H
 have c2b0 := bF c2
 have c2b1 := nT c2
 have c2b2 : ¬ (l0 = []) := fun h_ => c2 (by rw [h_]; rfl)
 obtain ⟨ji3, hji3⟩ : ∃ j_ : Int, (wrap64 ((l0.length : Int) - 1)) = j_ := ⟨_, rfl⟩
 simp only [hji3] at H
 have hji3w : (IntKind.i64.wrap ((l0.length : Int) - 1)) = ji3 := (yh _).trans hji3
 replace H := iD_ H
 obtain ⟨c4b0, H⟩ := H
 replace H := iD_ H
 obtain ⟨c5b0, H⟩ := H
 replace H := bA H
 obtain ⟨t175, A6, H⟩ := H
 obtain rfl := sI H
 obtain ⟨ad174, e174, hx174_0⟩ := Kd.zT HR0.out (ji3) oa oa
 cases e174
 have p174 : (0 ≤ ((ji3) : Int)) = True := tO
 have q174 : ((ji3) < (l0.length : Int)) = True := tO
 go_enter Tryz.func234, Tryz.ntmps234
 go_wp2_with (first | ((with_reducible refine zi (f := 244) rfl ?_); refine z7A (some 16) rfl rfl Tryz.func244 (by kernel_rfl) rfl #[.int .u32 (rd l0 (ji3))] rfl (by (try simp only [List.map_toArray, List.map_cons, List.map_nil]); first | done | (simp only [hji3]; rfl) | rfl | (simp only [List.length_drop, List.length_take]; rfl)) ?_; (with_reducible refine (xI.calls (rd l0 (ji3)) t175 _ A6.out).mono ?_); rintro e w' ⟨rfl, ⟨nd, rfl⟩⟩; refine ⟨_, rfl, ?_⟩))
 go_ret
 exact ⟨by first | rfl | (simp; done) | (simp only [← hji3] <;> (first | rfl | simp)) | (simp [*]; done), by repeat (first | exact zj.refl _ | apply zj.step)⟩
def z1D.f (k : Nat) (l0 : List Int) : Option (Int × Int) := (ym.f k (([l0] : List (List Int)))).bind fun t179 => (if t179 = 0 then ((z1l.f l0).bind fun t180 => (some (t180, 0))) else (some (0, t179)))
theorem z1D.calls (k : Nat) (P0_ : Nat → Prop) (A0 : Option Addr) (c0 : Nat) (l0 : List Int) (r1 : Int) (r2 : Int) (w : World) (hs0 : Kd.V (Kd.int .u32) 145 w w.heap.size (fun k_ => P0_ k_) (.slice A0 l0.length c0) l0) (h : z1D.f k l0 = some (r1, r2)) :
 Calls Tryz.prog 211 #[.slice A0 l0.length c0] w fun e w' => e = .returned (.tuple #[.int .i64 r1, .int .i64 r2]) ∧ Below w.heap.size w w' := by
 have HO0 := aS (show Kd.V (Kd.int .u32) 145 w w.heap.size (fun k_ => (P0_ k_ ∨ w.heap.size ≤ k_)) (.slice A0 l0.length c0) l0 from Kd.xi hs0 (fun k_ hk => .inl hk))
 have HB := hR w
 have H := h
 unfold z1D.f at H
 clear h
 obtain ⟨y176, Ny176⟩ := yE (([l0] : List (List Int)) : List (List Int))
 rw [← Ny176.out] at H
 replace H := bA H
 obtain ⟨t179, A2, H⟩ := H
 by_cases c3 : t179 = 0
 focus
  rw [if_pos c3] at H
  have c3b0 := bT c3
  have c3b1 := nF c3
  clear c3
  replace H := bA H
  obtain ⟨t180, A4, H⟩ := H
 rotate_left 1
 focus
  rw [if_neg c3] at H
  have c3b0 := bF c3
  have c3b1 := nT c3
 rotate_left 1
 all_goals (simp only [Option.some.injEq, Prod.mk.injEq] at H; obtain ⟨rfl, rfl⟩ := H)
 all_goals (go_enter Tryz.func211, Tryz.ntmps211)
 all_goals (go_wp2_with (first | ((with_reducible refine zq (N := 6) rfl ?_); refine Kd.z3W (Kd.slice 145 (Kd.int .u32)) _ 59 ?hg (N' := 6) ?hd (xs := ([l0] : List (List Int))) (inner := [.slice A0 l0.length c0]) (ok := (fun k_ => (P0_ k_ ∨ w.heap.size ≤ k_))) (okp := (fun k_ => (P0_ k_ ∨ w.heap.size ≤ k_))) ?hr ?hp (fun _ hk => hk) ((show ∀ k_, w.heap.size ≤ k_ → (fun k_ => (P0_ k_ ∨ w.heap.size ≤ k_)) k_ from fun k_ hk => (.inr (Nat.le_trans (zg (bl HB)) hk))) _ (Nat.le_refl _)) (Below.refl _ _) (Nat.le_refl _) (by simp) ?_; (case hd => rfl); (case hg => rfl); (case hr => first | (go_simp; done) | (go_simp; rfl)); (case hp => exact (zQ.one (show Kd.FK (Kd.slice 145 (Kd.int .u32)) _ _ l0 [.slice A0 l0.length c0] from (Kd.z0B (Kd.zM (Kd.xi (ok' := (fun k_ => (P0_ k_ ∨ w.heap.size ≤ k_))) (HO0.out) (fun k_ hk => hk))).2.1 (Kd.V_F (Kd.xi (ok' := (fun k_ => (P0_ k_ ∨ w.heap.size ≤ k_))) (HO0.out) (fun k_ hk => hk))))) (zQ.none _ _))); intro v177 wq1 ho6 hb hg_ hnew_; clear hg_ hnew_; (first | rw [← Ny176.out] at ho6 | (simp only [Int.reduceToNat] at ho6; rw [← Ny176.out] at ho6)); replace HO0 := aS (Kd.yy (by exact vA HO0.out) (Kd.z0i ho6) hb); have HO178 := aS (Kd.z0H ho6 (zg (bl HB))); replace HB := hB_ HB hb; clear hb ho6; obtain ⟨Aoq1, coq1, eoq1⟩ := Kd.z0x HO178.out; subst eoq1) | ((with_reducible refine zi (f := 188) rfl ?_); refine gl 7 Tryz.func188 #[.slice Aoq1 y176.length coq1] ?_; (with_reducible refine (ym.calls k _ _ y176 t179 _ ?side1 ?side2 A2.out).mono ?_); (case side1 => exact cA ((Kd.yD HO178.out).2.2)); (case side2 => exact (Kd.yD HO178.out).2.1); rintro e w' ⟨rfl, ⟨nd, rfl⟩⟩; refine ⟨_, rfl, ?_⟩) | ((with_reducible refine zi (f := 234) rfl ?_); refine gl 12 Tryz.func234 #[.slice A0 l0.length c0] ?_; (with_reducible refine (z1l.calls _ _ l0 t180 _ ?side1 ?side2 A4.out).mono ?_); (case side1 => exact cA ((Kd.zM HO0.out).2.2)); (case side2 => exact (Kd.zM HO0.out).2.1); rintro e w' ⟨rfl, ⟨nd, rfl⟩⟩; refine ⟨_, rfl, ?_⟩) | ((with_reducible refine zq (N := 6) rfl ?_); refine Kd.z3W (Kd.slice 145 (Kd.int .u32)) _ 59 ?hg (N' := 6) ?hd (xs := ([l0] : List (List Int))) (inner := [.slice A0 l0.length c0]) (ok := (fun k_ => (P0_ k_ ∨ w.heap.size ≤ k_))) (okp := (fun k_ => (P0_ k_ ∨ w.heap.size ≤ k_))) ?hr ?hp (fun _ hk => hk) ((show ∀ k_, w.heap.size ≤ k_ → (fun k_ => (P0_ k_ ∨ w.heap.size ≤ k_)) k_ from fun k_ hk => (.inr (Nat.le_trans (zg (bl HB)) hk))) _ (Nat.le_refl _)) (Below.refl _ _) (Nat.le_refl _) (by simp) ?_; (case hd => rfl); (case hg => rfl); (case hr => first | (go_simp; done) | (go_simp; rfl)); (case hp => exact (zQ.one (show Kd.FK (Kd.slice 145 (Kd.int .u32)) _ _ l0 [.slice A0 l0.length c0] from (Kd.z0B (Kd.zM (Kd.xi (ok' := (fun k_ => (P0_ k_ ∨ w.heap.size ≤ k_))) (HO0.out) (fun k_ hk => hk))).2.1 (Kd.V_F (Kd.xi (ok' := (fun k_ => (P0_ k_ ∨ w.heap.size ≤ k_))) (HO0.out) (fun k_ hk => hk))))) (zQ.none _ _))); intro v177 wq1 ho9 hb hg_ hnew_; clear hg_ hnew_; (first | rw [← Ny176.out] at ho9 | (simp only [Int.reduceToNat] at ho9; rw [← Ny176.out] at ho9)); replace HO0 := aS (Kd.yy (by exact vA HO0.out) (Kd.z0i ho9) hb); have HO178 := aS (Kd.z0H ho9 (zg (bl HB))); replace HB := hB_ HB hb; clear hb ho9; obtain ⟨Aoq1, coq1, eoq1⟩ := Kd.z0x HO178.out; subst eoq1)))
 ·go_ret2
  exact ⟨re, bl HB⟩
 ·go_ret2
  exact ⟨re, bl HB⟩
def xG.f (k : Nat) (l0 : List Int) : Option (Bool) := (z1D.f k l0).bind fun bt181 => (if bt181.2 = 0 then (some (decide (bt181.1 > 4096))) else (some true))
theorem xG.calls (k : Nat) (A0 : Option Addr) (c0 : Nat) (l0 : List Int) (r : Bool) (w : World) (hr0 : Kd.C (Kd.int .u32) w A0 l0.length l0) (hc0 : l0.length ≤ c0) (h : xG.f k l0 = some r) :
 Calls Tryz.prog 177 #[.slice A0 l0.length c0] w fun e w' => e = .returned (.bool r) ∧ Below w.heap.size w w' := by
 have HR0 := aS hr0
 have HC0 := aS hc0
 clear hr0 hc0
 have HB := hR w
 have H := h
 unfold xG.f at H
 clear h
 replace H := bS H
 obtain ⟨⟨t181, t182⟩, A20, H⟩ := H
 (try dsimp only at H)
 have A2 := aS A20
 clear A20
 by_cases c3 : t182 = 0
 ·rw [if_pos c3] at H
  have c3b0 := bT c3
  have c3b1 := nF c3
  clear c3
  obtain rfl := sI H
  go_enter Tryz.func177, Tryz.ntmps177
  go_wp2_with (first | ((with_reducible refine zi (f := 211) rfl ?_); refine gl 7 Tryz.func211 #[.slice A0 l0.length c0] ?_; (with_reducible refine (z1D.calls k (fun k_ => k_ < w.heap.size) _ _ l0 t181 t182 _ ?side1 A2.out).mono ?_); (case side1 => exact Kd.z1a HC0.out (Kd.yU (Kd.C_F (Kd.yw .u32) HR0.out) (bl HB))); rintro e w4 ⟨rfl, hb⟩; refine ⟨_, rfl, ?_⟩; replace HB := hB_ HB hb; clear hb))
  go_ret
  exact ⟨re, bl HB⟩
 ·rw [if_neg c3] at H
  have c3b0 := bF c3
  have c3b1 := nT c3
  obtain rfl := sI H
  go_enter Tryz.func177, Tryz.ntmps177
  go_wp2_with (first | ((with_reducible refine zi (f := 211) rfl ?_); refine gl 7 Tryz.func211 #[.slice A0 l0.length c0] ?_; (with_reducible refine (z1D.calls k (fun k_ => k_ < w.heap.size) _ _ l0 t181 t182 _ ?side1 A2.out).mono ?_); (case side1 => exact Kd.z1a HC0.out (Kd.yU (Kd.C_F (Kd.yw .u32) HR0.out) (bl HB))); rintro e w5 ⟨rfl, hb⟩; refine ⟨_, rfl, ?_⟩; replace HB := hB_ HB hb; clear hb))
  go_ret
  exact ⟨re, bl HB⟩
end
end Go.Proofs.QP

