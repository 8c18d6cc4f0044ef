import Derived.Deep.CutRange
import Derived.Test.YtbkknoipgmlcmaaGreatDoorQGM12
set_option linter.all false
set_option maxHeartbeats 8000000
set_option maxRecDepth 100000
namespace Go.Proofs.QP
open Go.RowKit Go.Proofs.PW Go.Proofs.PL Go.Proofs.PM Go.Proofs.FX
section
section
attribute [local go_sem] yd zV
def z4k (w : World) (x y : List Int) (e : Ending) (w' : World) : Prop :=
 ∃ (v1 : Value) (A : Option Addr) (c : Nat) (r : List Int), e = .returned (.tuple #[v1, .slice A r.length c]) ∧ Kd.C (Kd.int .u32) w' A r.length r ∧ r.length ≤ c ∧ yG r ∧ dv r = dv x % dv y ∧ Below w.heap.size w w'
theorem za5 {y : List Int} (h : yG y) (h0 : y ≠ []) : 0 < dv y := by
 have hl : 0 < y.length := List.length_pos_iff.2 h0
 have := (z0b h (n := y.length - 1) (by omega)).1
 have := z0N (y.length - 1)
 omega
theorem za6 (A B : Option Addr) (c d : Nat) (x y : List Int) (w : World) (hx : yG x) (hy : yG y) (bx : x.length ≤ 1000) (by_ : y.length ≤ 1000) (hA : Kd.C (Kd.int .u32) w A x.length x) (hc : x.length ≤ c) (hB : Kd.C (Kd.int .u32) w B y.length y) (hd : y.length ≤ d) (hlt : dv x < dv y) :
 Calls Tryz.prog 235 #[.slice A x.length c, .slice B y.length d] w (z4k w x y) := by
 obtain ⟨r, hr, hi⟩ := z3j hx hy (by omega) (by omega)
 obtain ⟨k, hk⟩ := hr.rounds
 have k0 : decide (r < 0) = true := dT (hi.2 hlt)
 have HC := aS (yl.calls k A c x B d y r w hA hc hB hd hk)
 have HA := aS hA
 have HL : Aside0 (yG x ∧ dv x = dv x % dv y ∧ x.length ≤ 4000000) := ⟨hx, (Int.emod_eq_of_lt (yc x hx.1).1 hlt).symm, by omega⟩
 clear hA hB hc hd hlt hi hr hk
 go_enter Tryz.func235, Tryz.ntmps235
 go_wp2_with fail
 (with_reducible refine HC.out.mono ?_)
 rintro e w1 ⟨rfl, ⟨nd, rfl⟩⟩
 go_wp2_with fail
 (with_reducible refine (z3v A c x _ (Kd.z03 HA.out _) HL.out.2.2).mono ?_)
 rintro e w2 ⟨v, rfl, hR, hb⟩
 have HR := aS hR
 have HB := aS (bs_ (zd (Below.refl w.heap.size w) nd) hb)
 clear hR hb
 obtain ⟨A2, c2, rfl⟩ := Kd.zB HR.out
 go_wp2
 exact bodyPost_ret (v := .tuple #[.slice none 0 0, .slice A2 x.length c2]) (by simp [results, Tryz.results235, go_sem]) rfl ⟨_, A2, c2, x, rfl, (Kd.zz HR.out).2.2, (Kd.zz HR.out).2.1, HL.out.1, HL.out.2.1, HB.out⟩
theorem div_one (A : Option Addr) (b : Addr) (c d : Nat) (x : List Int) (y : Int) (w : World) (hx : yG x) (hy : yG [y]) (bx : x.length ≤ 1000) (hA : Kd.C (Kd.int .u32) w A x.length x) (hc : x.length ≤ c) (hB : Kd.C (Kd.int .u32) w (some b) 1 [y]) (hd : 1 ≤ d) (hle : dv [y] ≤ dv x) :
 Calls Tryz.prog 235 #[.slice A x.length c, .slice (some b) 1 d] w (z4k w x [y]) := by
 obtain ⟨r, hr, hi⟩ := z3j hx hy (by omega) (show 1 ≤ 1000000 by decide)
 obtain ⟨k, hk⟩ := hr.rounds
 have k0 : decide (r < 0) = false := dF (by omega)
 have HC : Aside0 (Calls Tryz.prog 245 #[.slice A x.length c, .slice (some b) 1 d] w fun e w' => e = .returned (.int .i64 r) ∧ zj w w') := ⟨yl.calls k A c x (some b) d [y] r w hA hc hB hd hk⟩
 have hy1 : 1 ≤ y ∧ y < 4294967296 := ⟨by have := (z0b hy (n := 0) rfl).2; exact this, (yp.1 hy.1).1.2⟩
 have hyv : dv [y] = y := by simp [dv]
 obtain ⟨q, hq, hqc⟩ := z7b hx.1 hy1 (by omega) x.length (List.replicate x.length 0) 0 (Nat.le_refl _) (List.length_replicate ..) (fun d hd => by rw [List.eq_of_mem_replicate hd]; decide) (by rw [List.drop_of_length_le (Nat.le_refl _)]; simp [dv])
 have hq2 : Ev (fun k => xK.f k x y) (q, dv x % y) := by
  refine Ev.congr (fun k => ?_) hq
  unfold xK.f
  have c1 : (0 : Int) ≤ ((x.length : Nat) : Int) := by omega
  have c2 : x.length ≤ 70368744177664 := by omega
  rw [if_pos c1, Int.toNat_natCast, if_pos c2, d64 (by omega) (by omega)]
 obtain ⟨k2, hk2⟩ := hq2.rounds
 have HS := aS (fun W hb => xK.calls k2 A c x y q (dv x % y) W (Kd.zK hA hb) hc hk2)
 have hm0 := Int.emod_nonneg (dv x) (show y ≠ 0 by omega)
 have hm1 := Int.emod_lt_of_pos (dv x) (show 0 < y by omega)
 have hrok : dOk [dv x % y] := yp.2 ⟨⟨hm0, by omega⟩, fun d hd => by cases hd⟩
 obtain ⟨s, hs, hsc, hsv, hsl⟩ := z2Z 1 [dv x % y] rfl hrok (by decide)
 obtain ⟨k3, hk3⟩ := hs.rounds
 obtain ⟨ad, he, hb⟩ := (Kd.xv (enc := Value.int .u32) (d := (0 : Int)) (h1 := fun _ => rfl) hB).2.2 (by decide)
 injection he with he
 subst he
 obtain ⟨bb, bo, bl⟩ := b
 have hy0 : w.cell? ⟨bb, bo, bl⟩ = some (.int .u32 y) := hb 0 (by decide)
 have HL : Aside0 (yG s ∧ dv s = dv x % dv [y]) := ⟨hsc, by rw [hsv, hyv]; simp [dv]⟩
 have HK3 := aS hk3
 generalize dv x % y = m at *
 clear hA hB hc hd hle hi hr hk hb hq hq2 hk2 hm0 hm1 hrok hs hsc hsv hsl hk3 hy1 hyv hqc
 go_enter Tryz.func235, Tryz.ntmps235
 go_wp2_with fail
 (with_reducible refine HC.out.mono ?_)
 rintro e w1 ⟨rfl, ⟨nd, rfl⟩⟩
 go_wp2_with fail
 (with_reducible refine (HS.out _ (zd (Below.refl w.heap.size w) nd)).mono ?_)
 rintro e w2 ⟨v, rfl, hV, hb⟩
 have HB := aS (bs_ (zd (Below.refl w.heap.size w) nd) hb)
 clear hb hV
 go_wp2_with fail
 have hR : Kd.R (Kd.int .u32) 145 (w2.alloc (.cells #[.int .u32 m] 145)) w2.heap.size (fun _ => True) (.slice (some ⟨w2.heap.size, 0, none⟩) 1 1) [m] := by
  have hown := World.ownsRow_lit (base := w2.heap.size) (e := 145) (size := 1) w2 #[.int .u32 m] 1 (Nat.le_refl _) (by decide) (by rfl)
  exact Kd.z2r (enc := Value.int .u32) (h1 := fun _ => rfl) (by simpa [z1B] using hown) (fun _ _ => trivial)
 have HT : Aside0 (Calls Tryz.prog 220 #[.slice (some ⟨w2.heap.size, 0, none⟩) 1 1] (w2.alloc (.cells #[.int .u32 m] 145)) fun e w' => ∃ v0_ : Value, e = .returned (v0_) ∧ Kd.V (Kd.int .u32) 145 w' (w2.alloc (.cells #[.int .u32 m] 145)).heap.size (fun k_ => (True ∨ (w2.alloc (.cells #[.int .u32 m] 145)).heap.size ≤ k_)) v0_ s ∧ Below (w2.alloc (.cells #[.int .u32 m] 145)).heap.size (w2.alloc (.cells #[.int .u32 m] 145)) w') :=
  ⟨yA.calls k3 (fun _ => True) (some ⟨w2.heap.size, 0, none⟩) 1 [m] s (w2.alloc (.cells #[.int .u32 m] 145)) (Kd.R_V hR) HK3.out⟩
 have HB2 := aS (zl HB.out (.cells #[.int .u32 m] 145))
 clear hR
 generalize w2.alloc (.cells #[.int .u32 m] 145) = w3 at HT HB2 ⊢
 (with_reducible refine HT.out.mono ?_)
 rintro e w4 ⟨u, rfl, hV, hb⟩
 have HV := aS hV
 replace HB := aS (bs_ HB2.out hb)
 clear hV hb
 obtain ⟨A2, c2, rfl⟩ := Kd.xO HV.out
 go_wp2
 exact bodyPost_ret (v := .tuple #[v, .slice A2 s.length c2]) (by simp [results, Tryz.results235, go_sem]) rfl ⟨_, A2, c2, s, rfl, (Kd.zM HV.out).2.2, (Kd.zM HV.out).2.1, HL.out.1, HL.out.2, HB.out⟩
end
end
theorem zag {v u : List Int} {n : Nat} (hv : dOk v) (hu : dOk u) (hvl : v.length = n + 2) (hul : u.length = n + 3) (hv1 : 2147483648 ≤ v.getD (n + 1) 0) (hlt : dv u < 4294967296 * dv v) :
 (let two := u.getD (n + 2) 0 * 4294967296 + u.getD (n + 1) 0
  let v1 := v.getD (n + 1) 0
  0 ≤ z0w v1 (v.getD n 0) (u.getD n 0) 3 (two / v1) (two % v1) ∧ z0w v1 (v.getD n 0) (u.getD n 0) 3 (two / v1) (two % v1) < 4294967296 ∧ two / v1 ≤ 4294967297 ∧ 0 ≤ two ∧ two < 18446744073709551616) := by
 have b1 := yc (v.take n) (xc hv n)
 have b2 := yc (u.take n) (xc hu n)
 rw [List.length_take, Nat.min_eq_left (by omega)] at b1 b2
 have g1 := zX hv (n + 1)
 have g2 := zX hv n
 have g3 := zX hu n
 have g4 := zX hu (n + 1)
 have g5 := zX hu (n + 2)
 have hV : dv v = (v.getD (n + 1) 0 * 4294967296 + v.getD n 0) * pB n + dv (v.take n) := by rw [z8r hvl]; grind
 have hW : dv u = ((u.getD (n + 2) 0 * 4294967296 + u.getD (n + 1) 0) * 4294967296 + u.getD n 0) * pB n + dv (u.take n) := by rw [z8s hul]; grind
 have hp := z0N n
 have hVp : 0 < dv v := by
  have := Int.mul_le_mul_of_nonneg_right (show (1 : Int) ≤ v.getD (n + 1) 0 * 4294967296 + v.getD n 0 by omega) (Int.le_of_lt hp)
  omega
 have h0W := (yc u hu).1
 have hdv := (yc v hv).1
 have htop : u.getD (n + 2) 0 ≤ v.getD (n + 1) 0 := by
  rcases Int.lt_or_le (v.getD (n + 1) 0) (u.getD (n + 2) 0) with h | h
  ·have h2 : (v.getD (n + 1) 0 * 4294967296 + v.getD n 0 + 1) * 4294967296 * pB n ≤ ((u.getD (n + 2) 0 * 4294967296 + u.getD (n + 1) 0) * 4294967296 + u.getD n 0) * pB n := Int.mul_le_mul_of_nonneg_right (by omega) (Int.le_of_lt hp)
   have h3 : (v.getD (n + 1) 0 * 4294967296 + v.getD n 0 + 1) * 4294967296 * pB n = 4294967296 * ((v.getD (n + 1) 0 * 4294967296 + v.getD n 0) * pB n) + 4294967296 * pB n := by grind
   omega
  ·exact h
 have t1 : 0 ≤ u.getD (n + 2) 0 * 4294967296 + u.getD (n + 1) 0 := by omega
 have t2 : u.getD (n + 2) 0 * 4294967296 + u.getD (n + 1) 0 < v.getD (n + 1) 0 * 4294967296 + 4294967296 := by omega
 have t3 : u.getD (n + 2) 0 * 4294967296 + u.getD (n + 1) 0 < 18446744073709551616 := by omega
 dsimp only
 generalize u.getD (n + 2) 0 * 4294967296 + u.getD (n + 1) 0 = two at *
 generalize v.getD (n + 1) 0 = v1 at *
 have e1 := Int.mul_ediv_add_emod two v1
 have e2 := Int.emod_nonneg two (show v1 ≠ 0 by omega)
 have e3 := Int.emod_lt_of_pos two (show 0 < v1 by omega)
 have e4 : two / v1 ≤ 4294967297 := by
  have : two / v1 < 4294967298 := Int.ediv_lt_of_lt_mul (by omega) (by omega)
  omega
 have e5 : 0 ≤ two / v1 := Int.ediv_nonneg (by omega) (by omega)
 have e6 : (two / v1 + 1) * v1 = v1 * (two / v1) + v1 := by grind
 have key := z42 hp (by omega) g2 b1 b2 g3 hV hW hVp hlt h0W 3 (two / v1) (two % v1) (by rw [Int.mul_comm]; exact e1) e5 e4 e2 (by omega) (by omega) (z6P hp (by omega) g2.1 b1.1 g3.2 b2.2 hV hW (by omega) e5)
 exact ⟨key.1, key.2.1, e4, t1, t3⟩
theorem zde {v u : List Int} {n j : Nat} (hv : dOk v) (hvl : v.length = n + 2) (hv1 : 2147483648 ≤ v.getD (n + 1) 0) (hu : dOk u) (hl : j + 1 + (n + 2) ≤ u.length) (hlt : dv (u.drop (j + 1)) < dv v) :
 ((u.drop j).take (n + 3)).length = n + 3 ∧ dOk ((u.drop j).take (n + 3)) ∧ dv ((u.drop j).take (n + 3)) < 4294967296 * dv v ∧ dv ((z0u u j (n + 3) (z0v v ((u.drop j).take (n + 3))).1).drop j) < dv v := by
 have hwl : ((u.drop j).take (n + 3)).length = n + 3 := by rw [List.length_take, List.length_drop]; omega
 have hwok : dOk ((u.drop j).take (n + 3)) := xc (z11 hu j) _
 have hVb := (yc v hv).2
 rw [hvl] at hVb
 have hab : dv (u.drop (j + (n + 3))) = 0 := by
  have h1 := z0E (u.drop (j + 1)) (n + 2) (by rw [List.length_drop]; omega)
  rw [List.drop_drop, show j + 1 + (n + 2) = j + (n + 3) by omega] at h1
  have h2 := yc ((u.drop (j + 1)).take (n + 2)) (xc (z11 hu _) _)
  have h3 := yc (u.drop (j + (n + 3))) (z11 hu _)
  rcases Int.lt_or_le (dv (u.drop (j + (n + 3)))) 1 with h | h
  ·omega
  ·have := Int.mul_le_mul_of_nonneg_left h (Int.le_of_lt (z0N (n + 2)))
   omega
 have hwin : dv (u.drop j) = dv ((u.drop j).take (n + 3)) := by
  have h1 := z0E (u.drop j) (n + 3) (by rw [List.length_drop]; omega)
  rw [List.drop_drop, hab, Int.mul_zero] at h1
  omega
 have hW : dv ((u.drop j).take (n + 3)) < 4294967296 * dv v := by
  rw [← hwin, drop_one (by omega)]
  have := zX hu j
  simp only [dv]
  omega
 obtain ⟨k, hk, h0, hV, _⟩ := z54 hv hwok hvl hwl hv1 hW
 have hsl := z5V v ((u.drop j).take (n + 3))
 have hso := z7c v ((u.drop j).take (n + 3))
 rw [hwl] at hsl
 generalize (z0v v ((u.drop j).take (n + 3))).1 = w at *
 have hdr : dv ((z0u u j (n + 3) w).drop j) = dv w := by
  rw [z2W (by omega), z2P, hab, Int.mul_zero, Int.add_zero]
 exact ⟨hwl, hwok, hW, by rw [hdr]; exact hV⟩
theorem zc7 {v w : List Int} {n : Nat} {a2 a1 a0 v1 v0 two q : Int} (hvl : v.length = n + 2) (h2 : w.getD (n + 2) 0 = a2) (h1 : w.getD (n + 1) 0 = a1) (h0 : w.getD n 0 = a0) (g1 : v.getD (n + 1) 0 = v1) (g0 : v.getD n 0 = v0)
 (ht : a2 * 4294967296 + a1 = two) (hq : z0w v1 v0 a0 3 (two / v1) (two % v1) = q) :
 z0v v w = if (tkL q w v 0 0).2.2 = 0 then ((tkL q w v 0 0).1, q) else ((gvL (tkL q w v 0 0).1 v 0).1, q - 1) := by
 unfold z0v
 rw [hvl]
 simp only [show n + 2 - 1 = n + 1 from rfl, show n + 2 - 2 = n from rfl, h2, h1, h0, g1, g0, ht, hq]
section
section
attribute [local go_sem] yd zV
theorem z92 {a2 a1 two : Int} (b1 : 0 ≤ a2 ∧ a2 < 4294967296) (b2 : 0 ≤ a1 ∧ a1 < 4294967296) (ht : a2 * 4294967296 + a1 = two) :
 IntKind.u64.wrap a2 = a2 ∧ IntKind.u64.wrap (a2 * 4294967296) = a2 * 4294967296 ∧ bits .or .u64 (a2 * 4294967296) a1 = two ∧ IntKind.u64.wrap a1 = a1 :=
 ⟨z0P b1.1 (by omega), z0P (by omega) (by omega), by rw [z7V b1 b2]; exact ht, z0P b2.1 (by omega)⟩
theorem z9l {two v1 : Int} (h : 0 ≤ two ∧ two < 18446744073709551616) (hv : 1 ≤ v1 ∧ v1 < 4294967296) :
 IntKind.u64.wrap v1 = v1 ∧ (v1 == 0) = false ∧ (v1 = 0) = False ∧ Int.tdiv two v1 = two / v1 ∧ Int.tmod two v1 = two % v1 ∧ IntKind.u64.wrap (two / v1) = two / v1 ∧ IntKind.u64.wrap (two % v1) = two % v1 := by
 have h1 : two / v1 ≤ two := Int.ediv_le_self _ h.1
 have h2 : 0 ≤ two / v1 := Int.ediv_nonneg h.1 (by omega)
 have h3 := Int.emod_nonneg two (show v1 ≠ 0 by omega)
 have h4 := Int.emod_lt_of_pos two (show 0 < v1 by omega)
 exact ⟨z0P (by omega) (by omega), by simp; omega, eq_false (by omega), Int.tdiv_eq_ediv_of_nonneg h.1, Int.tmod_eq_emod_of_nonneg h.1, z0P h2 (by omega), z0P h3 (by omega)⟩
theorem z9x {m S : Nat} (hS : S = m + 2) (hb : S ≤ 100000) : wrap64 ((S : Int) - 1) = (m : Int) + 1 ∧ (0 ≤ (m : Int) + 1) = True ∧ ((m : Int) + 1 < (S : Int)) = True ∧ ((m : Int) + 1).toNat = m + 1 := by
 subst hS
 refine ⟨?_, eq_true (by omega), eq_true (by omega), by omega⟩
 rw [d64 (by omega) (by omega)]; omega
theorem z9t {m S : Nat} (hS : S = m + 2) (hb : S ≤ 100000) : wrap64 ((S : Int) - 2) = (m : Int) ∧ (0 ≤ (m : Int)) = True ∧ ((m : Int) < (S : Int)) = True ∧ (m < S) = True := by
 subst hS
 refine ⟨?_, eq_true (by omega), eq_true (by omega), eq_true (by omega)⟩
 rw [d64 (by omega) (by omega)]; omega
theorem z7H {j m S N : Nat} (hS : S = m + 2) (hN : j + m + 3 ≤ N) (hb : N ≤ 100000) :
 wrap64 ((j : Int) + (S : Int)) = (j : Int) + (m : Int) + 2 ∧ wrap64 ((j : Int) + (m : Int) + 2 - 2) = (j : Int) + (m : Int) ∧ (0 ≤ (j : Int) + (m : Int)) = True ∧ ((j : Int) + (m : Int) < (N : Int)) = True ∧ ((j : Int) + (m : Int)).toNat = j + m ∧ wrap64 ((j : Int) + (m : Int)) = (j : Int) + (m : Int) := by
 subst hS
 refine ⟨?_, ?_, eq_true (by omega), eq_true (by omega), by omega, d64 (by omega) (by omega)⟩
 ·rw [d64 (by omega) (by omega)]; omega
 ·rw [d64 (by omega) (by omega)]; omega
theorem z9b {j m S N : Nat} (hS : S = m + 2) (hN : j + m + 3 ≤ N) (hb : N ≤ 100000) :
 wrap64 ((j : Int) + (S : Int)) = (j : Int) + (m : Int) + 2 ∧ wrap64 ((j : Int) + (m : Int) + 2 - 1) = (j : Int) + (m : Int) + 1 ∧ (0 ≤ (j : Int) + (m : Int) + 2) = True ∧ ((j : Int) + (m : Int) + 2 < (N : Int)) = True ∧
 ((j : Int) + (m : Int) + 2).toNat = j + (m + 2) ∧ (0 ≤ (j : Int) + (m : Int) + 1) = True ∧ ((j : Int) + (m : Int) + 1 < (N : Int)) = True ∧ ((j : Int) + (m : Int) + 1).toNat = j + (m + 1) ∧ decide (0 ≤ (j : Int)) = true := by
 subst hS
 refine ⟨?_, ?_, eq_true (by omega), eq_true (by omega), by omega, eq_true (by omega), eq_true (by omega), by omega, dT (by omega)⟩
 ·rw [d64 (by omega) (by omega)]; omega
 ·rw [d64 (by omega) (by omega)]; omega
theorem zb3 {j m N cap : Nat} (h : j + m + 3 ≤ N) (hb : N ≤ 100000) (hc : N ≤ cap) :
 wrap64 ((j : Int) + (m : Int) + 2 + 1) = (j : Int) + (m : Int) + 3 ∧ wrap64 ((j : Int) + (m : Int) + 3) = (j : Int) + (m : Int) + 3 ∧ (0 ≤ (j : Int)) = True ∧ ((j : Int) ≤ (j : Int) + (m : Int) + 3) = True ∧ ((j : Int) + (m : Int) + 3 ≤ (cap : Int)) = True ∧ ((j : Int) + (m : Int) + 3 - (j : Int)).toNat = m + 3 ∧ j + m + 3 - j = m + 3 ∧ (cap = j) = False := by
 refine ⟨?_, ?_, eq_true (by omega), eq_true (by omega), eq_true (by omega), by omega, by omega, eq_false (by omega)⟩
 ·rw [d64 (by omega) (by omega)]; omega
 ·rw [d64 (by omega) (by omega)]
theorem z5T {W : World} {base g n cap : Nat} {xs : List Int} (h : z19 W base g n cap xs) {g3 : Nat} (hne : g ≠ g3) : Kd.R (Kd.int .u32) 145 W base (fun k => k ≠ g3) (.slice (some ⟨g, 0, none⟩) n cap) xs :=
 Kd.zw (Kd.z0Q rfl h) (fun k hk => by
  have : g = k := by simpa [Value.ownBlock] using hk.symm
  omega)
theorem z4v {W : World} {base g n cap : Nat} {xs : List Int} (h : z19 W base g n cap xs) {g3 : Nat} (hne : g ≠ g3) (i : Nat) (u : Value) : z19 (W.setCell ⟨g3, i, none⟩ u) base g n cap xs :=
 Kd.zw (Kd.z8d (p := ⟨g3, i, none⟩) (z5T h hne) (fun _ hk => hk) u) (fun _ _ => trivial)
theorem z1m {W W' : World} {base g n cap : Nat} {xs : List Int} (h : z19 W base g n cap xs) {g3 : Nat} (hne : g ≠ g3) (hk : zu W W' g3 none) : z19 W' base g n cap xs :=
 Kd.zw (Kd.z9M (z5T h hne) hk (fun _ hk => hk)) (fun _ _ => trivial)
theorem zaP {u w : List Int} {j n : Nat} (hj : j ≤ u.length) (hw : w.length = n) : ((z0u u j n w).drop j).take n = w := by
 rw [z2W hj, List.take_append_of_le_length (by omega), List.take_of_length_le (by omega)]
theorem z9k {u w w2 : List Int} {j n : Nat} (hj : j + n ≤ u.length) (hw : w.length = n) : z0u (z0u u j n w) j n w2 = z0u u j n w2 := by
 have h1 : (z0u u j n w).take j = u.take j := by
  unfold z0u
  rw [List.take_append_of_le_length (by rw [List.length_take]; omega), List.take_take, Nat.min_self]
 have h2 : (z0u u j n w).drop (j + n) = u.drop (j + n) := by
  rw [← List.drop_drop, z2W (by omega), List.drop_append_of_le_length (by omega), List.drop_of_length_le (by omega), List.nil_append]
 show (z0u u j n w).take j ++ (w2 ++ (z0u u j n w).drop (j + n)) = _
 rw [h1, h2]
 rfl
theorem z9v {v L Wn : List Int} {j m : Nat} (hvl : v.length = m + 2) (hw : (L.drop j).take (m + 3) = Wn) : z1P v (j + 1) L = z1P v j (z0u L j (m + 3) (z0v v Wn).1) := by
 show z1P v j (z0u L j (v.length + 1) (z0v v ((L.drop j).take (v.length + 1))).1) = _
 rw [hvl, hw]
theorem z78 {W : World} {base gt TL ct K : Nat} {t v : List Int} (h : z19 W base gt TL ct t) (htl : t.length = TL) (hK : t.take K = v) (hKle : K ≤ TL) : Kd.C (Kd.int .u32) W (some ⟨gt, 0, none⟩) v.length v := by
 have h2 := (Kd.zz h).2.2
 have h3 := Kd.z62 h2 (m := K) (by omega)
 rw [hK] at h3
 exact h3
theorem zb9 {g gt j m N S TL K capu ct : Nat} {L v t Wn : List Int} {Q : Int} {w wr : World} (HL : z19 wr w.heap.size g N capu L) (HV6 : z19 wr w.heap.size gt TL ct t) (HB : Below w.heap.size w wr) (hne : g ≠ gt) (hLN : L.length = N) (htl : t.length = TL)
 (hK : t.take K = v) (hKle : K ≤ TL) (hvl : v.length = S) (hx : dOk L) (hv : dOk v) (hq : 0 ≤ Q ∧ Q < 4294967296) (hjm : j + (m + 3) ≤ N) (hb : N ≤ 100000) (hw : (L.drop j).take (m + 3) = Wn) (hct : S ≤ TL) :
 Calls Tryz.prog 248 #[.slice (some ⟨g, j, none⟩) (m + 3) (capu - j), .slice (some ⟨gt, 0, none⟩) S ct, .int .u64 Q] wr fun e w' => e = .returned (.bool ((tkL Q Wn v 0 0).2.2 == 0)) ∧ z19 w' w.heap.size g N capu (z0u L j (m + 3) (tkL Q Wn v 0 0).1) ∧ Below w.heap.size w w' ∧ zu wr w' g none := by
 subst hLN hvl hw
 have hc := (Kd.zz HV6).2.1
 exact z8b g j (m + 3) (capu - j) capu ct L v Q (some ⟨gt, 0, none⟩) w wr HB HL hjm hx hv hq (by omega) (by omega) (fun W hk => z78 (z1m HV6 (Ne.symm hne) hk) htl hK hKle) (by omega)
theorem zaf {g gt j m N S TL K capu ct : Nat} {L v t T : List Int} {w wr : World} (HL : z19 wr w.heap.size g N capu (z0u L j (m + 3) T)) (HV6 : z19 wr w.heap.size gt TL ct t) (HB : Below w.heap.size w wr) (hne : g ≠ gt) (hLN : L.length = N) (htl : t.length = TL)
 (hK : t.take K = v) (hKle : K ≤ TL) (hvl : v.length = S) (hx : dOk L) (hT : dOk T) (hTl : T.length = m + 3) (hv : dOk v) (hjm : j + (m + 3) ≤ N) (hb : N ≤ 100000) (hct : S ≤ TL) :
 Calls Tryz.prog 249 #[.slice (some ⟨g, j, none⟩) (m + 3) (capu - j), .slice (some ⟨gt, 0, none⟩) S ct] wr fun e w' => e = .returned (.tuple #[]) ∧ z19 w' w.heap.size g N capu (z0u L j (m + 3) (gvL T v 0).1) ∧ Below w.heap.size w w' ∧ zu wr w' g none := by
 subst hLN hvl
 have hc := (Kd.zz HV6).2.1
 have hl := z2G (u := L) (w := T) (j := j) (n := m + 3) hjm hTl
 rw [← hl] at HL
 have h := z7z g j (m + 3) (capu - j) capu ct (z0u L j (m + 3) T) v (some ⟨gt, 0, none⟩) w wr HB HL (by omega) (z4t hx hT) hv (by omega) (by omega) (fun W hk => z78 (z1m HV6 (Ne.symm hne) hk) htl hK hKle) (by omega)
 rw [zaP (by omega) hTl, z9k hjm hTl, hl] at h
 exact h
theorem z4P {k : Nat} (h : 1 ≤ k) (r v : Int) : r + (k : Int) * v = r + v + ((k - 1 : Nat) : Int) * v := by
 have h1 : (k : Int) = ((k - 1 : Nat) : Int) + 1 := by omega
 rw [h1]
 grind
theorem za7 (A : Option Addr) (b : Addr) (c d m : Nat) (x y : List Int) (w : World) (hx : yG x) (hy : yG y) (hyl : y.length = m + 2) (bx : x.length ≤ 1000) (hA : Kd.C (Kd.int .u32) w A x.length x) (hc : x.length ≤ c) (hB : Kd.C (Kd.int .u32) w (some b) y.length y) (hd : y.length ≤ d) (hle : dv y ≤ dv x) :
 Calls Tryz.prog 235 #[.slice A x.length c, .slice (some b) y.length d] w (z4k w x y) := by
 have hxy : y.length ≤ x.length := by
  rcases Nat.lt_or_ge x.length y.length with h | h
  ·have h1 := (yc x hx.1).2
   have h2 := (z0b hy (n := m + 1) (by omega)).1
   have := z3C (show x.length ≤ m + 1 by omega)
   omega
  ·exact h
 obtain ⟨r, hr, hi⟩ := z3j hx hy (by omega) (by omega)
 obtain ⟨k, hk⟩ := hr.rounds
 have k0 : decide (r < 0) = false := dF (by omega)
 have HC : Aside0 (Calls Tryz.prog 245 #[.slice A x.length c, .slice (some b) y.length d] w fun e w' => e = .returned (.int .i64 r) ∧ zj w w') := ⟨yl.calls k A c x (some b) d y r w hA hc hB hd hk⟩
 have hyt := (z0b hy (n := m + 1) (by omega)).2
 have hyd := zX hy.1 (m + 1)
 obtain ⟨n, hn, hlz, hn1, hn2⟩ := zdI (a := y.getD (m + 1) 0) (by omega) hyd.2
 obtain ⟨ee, ff, he, hf, hef, he1, hf2⟩ := z6w hn
 rw [he] at hn1 hn2
 have HLZ := aS (fun W => xn.calls (y.getD (m + 1) 0) (n : Int) W hlz)
 obtain ⟨u, hu, huo, hul, huv⟩ := left_at hx.1 hn (by omega)
 obtain ⟨t, ht, hto, htl, htv⟩ := left_at hy.1 hn (by omega)
 rw [he] at huv htv
 obtain ⟨hvc, hvv⟩ := z56 hto t.length (Nat.le_refl _)
 rw [List.take_of_length_le (Nat.le_refl _)] at hvv
 have hKle := z7d t t.length
 have hvl : (t.take (z0A t t.length)).length = z0A t t.length := by rw [List.length_take]; omega
 obtain ⟨K, hK⟩ : ∃ K, z0A t t.length = K := ⟨_, rfl⟩
 rw [hK] at hvc hvv hKle hvl
 obtain ⟨v, hvt⟩ : ∃ v, t.take K = v := ⟨_, rfl⟩
 rw [hvt] at hvc hvv hvl
 obtain ⟨k1, hk1⟩ := hu.rounds
 obtain ⟨k2, hk2⟩ := ht.rounds
 have hmv := zdJ hx hy hyl hef he1 hf2 hn1 hn2 huo hul huv hvc (by rw [hvv, htv]) hxy
 obtain ⟨kq, hdv, hd0, hd1, hdo, hdl⟩ := z5w hvc.1 hmv.1 hmv.2.1 (x.length - (m + 1)) u huo hmv.2.2.2 hmv.2.2.1
 obtain ⟨s, hs, hsc, hsv, hsl⟩ := z2Z u.length (z1P v (x.length - (m + 1)) u) hdl hdo (by omega)
 obtain ⟨z, hz, hzc, hzv⟩ := zaX hsc.1 hn (by omega)
 obtain ⟨k4, hk4⟩ := hs.rounds
 obtain ⟨k5, hk5⟩ := hz.rounds
 have HFIN : Aside0 (yG z ∧ dv z = dv x % dv y) := ⟨hzc, by rw [hzv, hsv, he]; exact z7T (Y := dv y) (k := kq) (E := 0) he1 (by rw [hdv, huv, hvv, htv]) hd0 (by rw [hvv, htv] at hd1; exact hd1)⟩
 have HL1 := aS (fun W hb => xS.calls k1 A c x (n : Int) u W (Kd.zK hA hb) hc hk1)
 have HL2 := aS (fun W hb => xS.calls k2 (some b) d y (n : Int) t W (Kd.zK hB hb) hd hk2)
 have HKK := aS (And.intro hK (And.intro hvt (And.intro hvl (And.intro hto hKle))))
 have HK4 := aS hk4
 have HK5 := aS hk5
 have HV := aS (show yG v ∧ 2147483648 ≤ v.getD (m + 1) 0 from ⟨hvc, hmv.2.1⟩)
 have HUO := aS huo
 have HUV := aS hmv.2.2.1
 obtain ⟨ad, hea, hb⟩ := (Kd.xv (enc := Value.int .u32) (d := (0 : Int)) (h1 := fun _ => rfl) hB).2.2 (by omega)
 injection hea with hea
 subst hea
 obtain ⟨bb, bo, bl⟩ := b
 have hvl2 := hmv.1
 have HT := aS (show m + 2 ≤ x.length ∧ x.length ≤ 1000 ∧ y.length = m + 2 ∧ u.length = x.length + 1 ∧ v.length = m + 2 ∧ t.length = m + 3 ∧ n < 32 from ⟨by omega, bx, hyl, hul, hmv.1, by omega, hn⟩)
 have htop := hb (m + 1) (by omega)
 have htop2 : w.cell? ⟨bb, bo + (m + 1), none⟩ = some (.int .u32 (y.getD (m + 1) 0)) := htop
 have HTop := aS htop2
 clear hA hB hc hd hle hi hr hk hb htop htop2 hyt hyd hlz hn1 hn2 he hf hef he1 hf2 hu huo hul huv ht hto htl htv hvc hvv hvl hk1 hk2 hK hvt hKle hmv hdv hd0 hd1 hdo hdl hs hsc hsv hsl hz hzc hzv hk4 hk5 hxy hx hy bx hn hvl2
 clear hyl
 have hl0 := HT.out.2.2.1
 have e1 : ((y.length : Int) == 1) = false := by simp; omega
 have e2 : (y.length == 1) = false := by simp; omega
 have e3 : wrap64 ((y.length : Int) - 1) = ((m + 1 : Nat) : Int) := by have hxl := HT.out.2.1; have hml := HT.out.1; rw [hl0, d64 (by omega) (by omega)]; omega
 have e4 : ((m : Int) + 1 < (y.length : Int)) = True := eq_true (by omega)
 have e6 : (0 ≤ (m : Int) + 1) = True := eq_true (by omega)
 have e5 : (m + 1 < y.length) = True := eq_true (by omega)
 clear hl0
 go_enter Tryz.func235, Tryz.ntmps235
 go_wp2_with fail
 (with_reducible refine HC.out.mono ?_)
 rintro e w1 ⟨rfl, ⟨nd, rfl⟩⟩
 have htc : (w.drewN nd).cell? ⟨bb, bo + (m + 1), none⟩ = some (.int .u32 (y.getD (m + 1) 0)) := HTop.out
 generalize y.getD (m + 1) 0 = yt at *
 go_wp2_with fail
 (with_reducible refine (HLZ.out _).mono ?_)
 rintro e w2 ⟨rfl, ⟨nd2, rfl⟩⟩
 clear htc
 have HBw := aS (zd (zd (Below.refl w.heap.size w) nd) nd2)
 generalize (w.drewN nd).drewN nd2 = w2 at HBw ⊢
 go_wp2_with fail
 (with_reducible refine (HL1.out _ HBw.out).mono ?_)
 rintro e w3 ⟨vu, rfl, hR, hb⟩
 obtain ⟨g, capu, hvu, hg2, hg3, -⟩ := Kd.z0M hR (by have := HT.out; omega)
 subst hvu
 have HU : Aside0 (z19 w3 w.heap.size g u.length capu u) := ⟨Kd.zL hR HBw.out.size⟩
 have HG := aS hg3
 have HBu := aS (bs_ HBw.out hb)
 clear hR hb hg2 hg3
 go_wp2_with fail
 (with_reducible refine (HL2.out _ HBu.out).mono ?_)
 rintro e w4 ⟨vt, rfl, hR, hb⟩
 obtain ⟨gt, ct, hvt_, ht2, ht3, -⟩ := Kd.z0M hR (by have := HT.out; omega)
 subst hvt_
 have HTR : Aside0 (z19 w4 w.heap.size gt t.length ct t) := ⟨Kd.zL hR HBu.out.size⟩
 have HGT := aS (show g ≠ gt by have := HG.out; omega)
 replace HU := aS (Kd.zU HU.out hb)
 have HBv := aS (bs_ HBu.out hb)
 clear hR hb ht2 ht3
 go_wp2_with fail
 (with_reducible refine (z9z gt ct t w w4 HTR.out (by have := HT.out; omega)).mono ?_)
 rintro e w5_ ⟨rfl, ⟨nd5, rfl⟩⟩
 replace HU := aS (Kd.yK HU.out nd5)
 replace HTR := aS (Kd.yK HTR.out nd5)
 replace HBv := aS (zd HBv.out nd5)
 generalize w4.drewN nd5 = w5 at HU HTR HBv ⊢
 rw [HKK.out.1, ← HKK.out.2.2.1]
 have hj0 := HT.out
 have e7 : wrap64 ((u.length : Int) - (v.length : Int)) = ((x.length - (m + 1) : Nat) : Int) := by rw [d64 (by omega) (by omega)]; omega
 have HJ0 := aS (show 1 ≤ x.length - (m + 1) ∧ x.length - (m + 1) + (m + 2) = u.length from by omega)
 have HJ1 := aS (show (((x.length - (m + 1) : Nat) : Int)).toNat * 4 ≤ 281474976710656 from by rw [Int.toNat_natCast]; omega)
 have HDV : Aside0 (z1P v (x.length - (m + 1)) u = z1P v (x.length - (m + 1)) u) := ⟨rfl⟩
 clear hj0
 generalize hJ : x.length - (m + 1) = J at *
 clear hJ
 generalize hN : u.length = N at *
 generalize hS : v.length = S at *
 generalize hTL : t.length = TL at *
 have HNL := aS hN
 have HSL := aS hS
 have HTL0 := aS hTL
 clear hN hS hTL
 go_wp2_with ((with_reducible refine zq (N := 58) rfl ?_); refine Kd.z1w (Kd.int .u32) w.heap.size 145 rfl (N := 58) rfl 59 _ _ rfl (wrap64 ((N : Int) - (S : Int))) rfl rfl Tryz.underlying59 (.int .u32 0) 4 xR rfl (by decide) (by omega) 0 (ok := fun _ => True) (okp := fun _ => True) rfl (fun _ hk => hk) trivial (by rw [e7]; exact Int.natCast_nonneg J) (by rw [e7]; exact HJ1.out) HBv.out HBv.out.size ?_; intro v6 w6 ho hb hg hnew; rw [e7] at ho; obtain ⟨g3, capo, hvo, ho2, ho3, -⟩ := Kd.z0M ho (by rw [List.length_replicate, Int.toNat_natCast]; exact HJ0.out.1); rw [List.length_replicate, Int.toNat_natCast] at hvo; subst hvo; rw [Int.toNat_natCast] at ho; have HO : Aside0 (z19 w6 w.heap.size g3 J capo (List.replicate J 0)) := ⟨ho⟩; have hg53 : w5.heap.size ≤ g3 := (by obtain ⟨b_, hb_, hb2_⟩ := hnew; have : g3 = b_ := (by simpa [Value.ownBlock] using hb_); omega); have hgu : g < w5.heap.size := Kd.z27 HU.out g rfl; have hgt : gt < w5.heap.size := Kd.z27 HTR.out gt rfl; have HNE := aS (show g ≠ g3 ∧ gt ≠ g3 from ⟨by omega, by omega⟩); have HV6 : Aside0 (z19 w6 w.heap.size gt TL ct t) := ⟨Kd.z4m HTR.out hg (fun _ _ => by simp)⟩; have HU6 : Aside0 (z19 w6 w.heap.size g N capu u) := ⟨Kd.z4m HU.out hg (fun _ _ => by simp)⟩; have HB6 := aS hb; clear ho hb hg hnew hg53 hgu hgt ho2 ho3 HU HTR HBv HJ1)
 have e8 : wrap64 ((J : Int) - 1) = (J : Int) - 1 := d64 (by have := HJ0.out; omega) (by have := HJ0.out; have := HT.out; omega)
 go_wp2
 clear e1 e2 e3 e4 e5 e6 k0 HC HLZ HL1 HL2 HTop
 go_loopg [13] (J + 1) (fun kq v13 w' => ∃ (i : Int) (j : Nat) (L O : List Int), v13 = .int .i64 i ∧ Aside0 (i = (j : Int) - 1 ∧ kq = j + 1 ∧ j ≤ J ∧ dOk L ∧ L.length = N ∧ dOk O ∧ O.length = J) ∧ Aside0 (z1P v j L = z1P v J u) ∧ Aside0 (dv (L.drop j) < dv v) ∧ Aside0 (z19 w' w.heap.size g N capu L) ∧ Aside0 (z19 w' w.heap.size g3 J capo O) ∧
  Aside0 (z19 w' w.heap.size gt TL ct t) ∧ Aside0 (Below w.heap.size w w'))
 case atStart => exact ⟨_, J, u, List.replicate J 0, rfl, ⟨e8, rfl, Nat.le_refl _, HUO.out, HNL.out, (fun d hd => by rw [List.eq_of_mem_replicate hd]; decide), List.length_replicate ..⟩, ⟨rfl⟩, HUV, HU6, HO, HV6, HB6⟩
 case round =>
  clear e8 HU6 HO HV6 HB6 HUV e7
  obtain ⟨i, j, L, O, rfl, HA, HD, HLT, HL, HO, HV6, HB⟩ := hrel
  cases j with
  | zero =>
   have k1 : decide (0 ≤ i) = false := dF (by have := HA.out; omega)
   have h1 := HA.out
   have hoJ : O.length = J := h1.2.2.2.2.2.2
   have hLN : L.length = N := h1.2.2.2.2.1
   obtain ⟨so, hso, -, -, -⟩ := z2Z O.length O rfl h1.2.2.2.2.2.1 (by have := HJ0.out; have := HT.out; omega)
   obtain ⟨k6, hk6⟩ := hso.rounds
   have HTO : Aside0 (Calls Tryz.prog 220 #[.slice (some ⟨g3, 0, none⟩) J capo] wr fun e w' => ∃ v0_ : Value, e = .returned v0_ ∧ Below wr.heap.size wr w') := ⟨by
    have h2 := yA.calls k6 (fun _ => True) (some ⟨g3, 0, none⟩) capo O so wr (Kd.R_V (by rw [hoJ]; exact HO.out)) hk6
    rw [hoJ] at h2
    exact h2.mono (fun e w' ⟨v0, h3, _, h5⟩ => ⟨v0, h3, h5⟩)⟩
   have hLs : L = z1P v J u := HD.out
   have HTL : Aside0 (∀ W, Below wr.heap.size wr W → Calls Tryz.prog 220 #[.slice (some ⟨g, 0, none⟩) N capu] W fun e w' => ∃ (A2 : Option Addr) (c2 : Nat), e = .returned (.slice A2 s.length c2) ∧ s.length ≤ c2 ∧ Kd.C (Kd.int .u32) w' A2 s.length s ∧ Below W.heap.size W w') := ⟨fun W hb => by
    have h2 := yA.calls k4 (fun _ => True) (some ⟨g, 0, none⟩) capu L s W (Kd.R_V (by rw [hLN]; exact Kd.zU HL.out hb)) (by rw [hLs]; exact HK4.out)
    rw [hLN] at h2
    refine h2.mono ?_
    rintro e w' ⟨v0, rfl, h4, h5⟩
    obtain ⟨A2, c2, rfl⟩ := Kd.xO h4
    exact ⟨A2, c2, rfl, (Kd.zM h4).2.1, (Kd.zM h4).2.2, h5⟩⟩
   clear h1 hoJ hLN hso hk6 hLs
   go_wp2_with fail
   (with_reducible refine HTO.out.mono ?_)
   rintro e wa ⟨va, rfl, hb⟩
   have HBa := aS hb
   clear hb
   go_wp2_with fail
   (with_reducible refine (HTL.out _ HBa.out).mono ?_)
   rintro e wb ⟨A2, c2, rfl, hc2, hC2, hb⟩
   have HC2 := aS hC2
   have HL2 := aS hc2
   have HBb := aS (bs_ HBa.out hb)
   clear hb hc2 hC2
   go_wp2_with fail
   (with_reducible refine (ya.calls k5 A2 c2 s (n : Int) z wb HC2.out HL2.out HK5.out).mono ?_)
   rintro e wc ⟨vz, rfl, hV, hb⟩
   have HZ := aS hV
   have HBc := aS (bs_ HB.out (bs_ HBb.out hb))
   clear hV hb
   obtain ⟨A3, c3, rfl⟩ := Kd.xO HZ.out
   go_wp2
   exact bodyPost_ret (v := .tuple #[va, .slice A3 z.length c3]) (by simp [results, Tryz.results235, go_sem]) rfl ⟨_, A3, c3, z, rfl, (Kd.zM HZ.out).2.2, (Kd.zM HZ.out).2.1, HFIN.out.1, HFIN.out.2, HBc.out⟩
  | succ j =>
   have h1 := HA.out
   have ht := HT.out
   obtain rfl : i = (j : Int) := by omega
   have hvl : v.length = m + 2 := by rw [HSL.out]; exact ht.2.2.2.2.1
   obtain ⟨q1, q2, q3, q4⟩ := zde HV.out.1.1 hvl HV.out.2 h1.2.2.2.1 (by have := HJ0.out; omega) HLT.out
   obtain ⟨p1, p2, p3, p4, p5⟩ := zag HV.out.1.1 q2 hvl q1 HV.out.2 q3
   have HW := aS (And.intro q1 (And.intro q2 q4))
   have hj0 := HJ0.out
   have wg : ∀ k, k < m + 3 → ((L.drop j).take (m + 3)).getD k 0 = L.getD (j + k) 0 := fun k hk => by
    rw [List.getD_eq_getElem?_getD, List.getD_eq_getElem?_getD, List.getElem?_take_of_lt hk, List.getElem?_drop]
   have g1 := wg (m + 2) (by omega)
   have g2 := wg (m + 1) (by omega)
   have g3_ := wg m (by omega)
   have b1 := zX q2 (m + 2)
   have b2 := zX q2 (m + 1)
   have b3 := zX q2 m
   have b4 := zX HV.out.1.1 (m + 1)
   have b5 := zX HV.out.1.1 m
   have r1 := Kd.yx (0 : Int) HL.out ((j + (m + 2) : Nat) : Int) (by omega) (by omega)
   have r2 := Kd.yx (0 : Int) HL.out ((j + (m + 1) : Nat) : Int) (by omega) (by omega)
   have r3 := Kd.yx (0 : Int) HL.out ((j + m : Nat) : Int) (by omega) (by omega)
   rw [Int.toNat_natCast] at r1 r2 r3
   have R1 : wr.cell? ⟨g, j + (m + 2), none⟩ = some (.int .u32 (L.getD (j + (m + 2)) 0)) := r1.1
   have R2 : wr.cell? ⟨g, j + (m + 1), none⟩ = some (.int .u32 (L.getD (j + (m + 1)) 0)) := r2.1
   have R3 : wr.cell? ⟨g, j + m, none⟩ = some (.int .u32 (L.getD (j + m) 0)) := r3.1
   rw [← g1] at R1
   rw [← g2] at R2
   rw [← g3_] at R3
   have hkk := HKK.out
   have htl0 := HTL0.out
   have vg : ∀ k, k < m + 2 → t.getD k 0 = v.getD k 0 := fun k hk => by
    rw [← hkk.2.1, List.getD_eq_getElem?_getD, List.getD_eq_getElem?_getD, List.getElem?_take_of_lt (by omega)]
   have r4 := (Kd.yx (0 : Int) HV6.out ((m + 1 : Nat) : Int) (by omega) (by omega)).1
   have r5 := (Kd.yx (0 : Int) HV6.out ((m : Nat) : Int) (by omega) (by omega)).1
   rw [Int.toNat_natCast] at r4 r5
   have R4 : wr.cell? ⟨gt, m + 1, none⟩ = some (.int .u32 (t.getD (m + 1) 0)) := r4
   have R5 : wr.cell? ⟨gt, m, none⟩ = some (.int .u32 (t.getD m 0)) := r5
   rw [vg (m + 1) (by omega)] at R4
   rw [vg m (by omega)] at R5
   generalize hWn : (L.drop j).take (m + 3) = Wn at q1 q2 q3 q4 p1 p2 p3 p4 p5 R1 R2 R3 b1 b2 b3
   obtain ⟨a2, ha2⟩ : ∃ a, Wn.getD (m + 2) 0 = a := ⟨_, rfl⟩
   obtain ⟨a1, ha1⟩ : ∃ a, Wn.getD (m + 1) 0 = a := ⟨_, rfl⟩
   obtain ⟨a0, ha0⟩ : ∃ a, Wn.getD m 0 = a := ⟨_, rfl⟩
   obtain ⟨v1, hv1⟩ : ∃ a, v.getD (m + 1) 0 = a := ⟨_, rfl⟩
   obtain ⟨v0, hv0⟩ : ∃ a, v.getD m 0 = a := ⟨_, rfl⟩
   obtain ⟨two, htwo⟩ : ∃ a, a2 * 4294967296 + a1 = a := ⟨_, rfl⟩
   obtain ⟨Q, hQ⟩ : ∃ a, z0w v1 v0 a0 3 (two / v1) (two % v1) = a := ⟨_, rfl⟩
   have HST := aS (zc7 hvl ha2 ha1 ha0 hv1 hv0 htwo hQ)
   have HWN := aS hWn
   have hv1b := HV.out.2
   simp only [ha2, ha1, ha0, hv1, hv0, htwo, hQ] at R1 R2 R3 R4 R5 b1 b2 b3 b4 b5 p1 p2 p3 p4 p5 hv1b
   have HGS := aS (show 0 ≤ Q ∧ Q < 4294967296 ∧ two / v1 ≤ 4294967297 ∧ 0 ≤ two ∧ two < 18446744073709551616 from ⟨p1, p2, p3, p4, p5⟩)
   have HB0 := aS (And.intro b3 (And.intro b4 (And.intro b5 hv1b)))
   have HQ := aS hQ
   obtain ⟨f1, f2, f3, f4⟩ := z92 b1 b2 htwo
   obtain ⟨f5, f6, f7, f8, f9, f10, f11⟩ := z9l (two := two) (v1 := v1) ⟨p4, p5⟩ (show 1 ≤ v1 ∧ v1 < 4294967296 from ⟨by omega, b4.2⟩)
   obtain ⟨l1, l2, l3, l4⟩ := z9x (m := m) (S := S) (by omega) (by omega)
   obtain ⟨i1, i2, i3, i4, i5, i6, i7, i8, k1⟩ := z9b (j := j) (m := m) (S := S) (N := N) (by omega) (by omega) (by omega)
   clear hkk htl0 vg r4 r5
   clear hWn ha2 ha1 ha0 hv1 hv0 htwo hQ hv1b b1 b2 b3 b4 b5
   clear r1 r2 r3 wg g1 g2 g3_ q1 q2 q3 q4 p1 p2 p3 p4 p5 h1 ht hvl hj0
   go_upto_region 13 with (fail)
   go_quiet (fail)
   go_upto_region 14 with (fail)
   go_quiet (fail)
   go_upto_block 2 with (fail)
   simp only [i1, l1]
   go_cut [15] from 62 to 161 (fun v15 wc => v15 = .int .u64 Q ∧ zj wr wc)
   case first =>
    clear i1 i2 i3 i4 i5 i6 i7 i8 f1 f2 f3 f4 f6 f7 f8 f9 f10 f11 R1 R2 k1
    go_wp2_with (fail)
    go_loopg [15, 16] 4 (fun kq v15 v16 w' => ∃ (q r : Int) (k : Nat), v15 = .int .u64 q ∧ v16 = .int .u64 r ∧ Aside0 (z0w v1 v0 a0 k q r = Q ∧ kq = k + 1 ∧ 0 ≤ q ∧ q ≤ 4294967297 ∧ 0 ≤ r ∧ r < 4294967296 ∧ 4294967296 ≤ r + k * v1) ∧ zj wr w')
    case atStart =>
     have h5 := HGS.out
     have h6 := HB0.out
     have h7 : 0 ≤ two / v1 := Int.ediv_nonneg h5.2.2.2.1 (by omega)
     have h8 := Int.emod_nonneg two (show v1 ≠ 0 by omega)
     have h9 := Int.emod_lt_of_pos two (show 0 < v1 by omega)
     exact ⟨_, _, 3, rfl, rfl, ⟨HQ.out, rfl, h7, h5.2.2.1, h8, by omega, by omega⟩, ⟨_, World.drewN_drewN _ _ _⟩⟩
    case round =>
     obtain ⟨q, r, k, rfl, rfl, HE, ⟨nw, rfl⟩⟩ := hrel
     have hE := HE.out
     have hb0 := HB0.out
     have w1_ : IntKind.u64.wrap (q - 1) = q - 1 ∨ q = 0 := by rcases Int.lt_or_le q 1 with h | h; exact .inr (by omega); exact .inl (z0P (by omega) (by omega))
     have w2_ : IntKind.u64.wrap (r + v1) = r + v1 := z0P (by omega) (by omega)
     have w3_ : IntKind.u64.wrap (r * 4294967296) = r * 4294967296 := z0P (by omega) (by omega)
     have w4_ := z7V (a := r) (b := a0) ⟨hE.2.2.2.2.1, hE.2.2.2.2.2.1⟩ hb0.1
     have w5_ : IntKind.u64.wrap a0 = a0 := z0P hb0.1.1 (by omega)
     have w6_ : IntKind.u64.wrap v0 = v0 := z0P hb0.2.2.1.1 (by omega)
     obtain ⟨t1, t2, t3, t4⟩ := z9t (m := m) (S := S) (by have := HT.out; omega) (by have := HT.out; omega)
     obtain ⟨o1, o2, o3, o4, o5, o6⟩ := z7H (j := j) (m := m) (S := S) (N := N) (by have := HT.out; omega) (by have := HJ0.out; have := HA.out; omega) (by have := HJ0.out; have := HT.out; omega)
     clear hE hb0
     have HGE : Aside0 ((4294967296 ≤ q ∨ r * 4294967296 + a0 < q * v0) → 1 ≤ q ∧ 1 ≤ k ∧ Q = if 4294967296 ≤ r + v1 then q - 1 else z0w v1 v0 a0 (k - 1) (q - 1) (r + v1)) := ⟨fun hb => by
      have hE := HE.out
      have hB := HB0.out
      have hq1 : 1 ≤ q := by
       rcases hb with h | h
       ·omega
       ·rcases Int.lt_or_le q 1 with h1 | h1
        ·have : q = 0 := by omega
         subst this
         rw [Int.zero_mul] at h
         omega
        ·exact h1
      have hk1 : 1 ≤ k := by
       rcases Nat.lt_or_ge k 1 with h1 | h1
       ·have : k = 0 := by omega
        subst this
        have := hE.2.2.2.2.2.2
        rw [Int.natCast_zero, Int.zero_mul] at this
        omega
       ·exact h1
      refine ⟨hq1, hk1, ?_⟩
      have h2 := hE.1
      rw [show k = (k - 1) + 1 by omega] at h2
      unfold z0w at h2
      rw [if_pos hb] at h2
      exact h2.symm⟩
     have HGD : Aside0 (¬ (4294967296 ≤ q ∨ r * 4294967296 + a0 < q * v0) → Q = q) := ⟨fun hb => by
      have h2 := HE.out.1
      cases k with
      | zero => exact h2.symm
      | succ k =>
       unfold z0w at h2
       rw [if_neg hb] at h2
       exact h2.symm⟩
     by_cases hq : 4294967296 ≤ q
     ·have x1 : decide (4294967296 ≤ q) = true := dT hq
      have HX := aS (HGE.out (.inl hq))
      have w1 : IntKind.u64.wrap (q - 1) = q - 1 := by rcases w1_ with h | h; exact h; exact absurd hq (by omega)
      clear hq w1_ HGE HGD
      by_cases hr : 4294967296 ≤ r + v1
      ·have y1 : decide (4294967296 ≤ r + v1) = true := dT hr
       have HQ1 : Aside0 (q - 1 = Q) := ⟨by rw [HX.out.2.2, if_pos hr]⟩
       clear hr
       go_upto_region 15 with (fail)
       go_quiet (fail)
       go_wp2_with (fail)
       go_meet
       case rel => exact ⟨by rw [← HQ1.out] <;> first | rfl | rw [w1], ⟨_, by first | rfl | exact World.drewN_drewN _ _ _⟩⟩
      ·have y1 : decide (4294967296 ≤ r + v1) = false := dF hr
       have HQ1 : Aside0 (z0w v1 v0 a0 (k - 1) (q - 1) (r + v1) = Q) := ⟨by rw [HX.out.2.2, if_neg hr]⟩
       have HR1 := aS hr
       clear hr
       go_upto_region 15 with (fail)
       go_quiet (fail)
       go_wp2_with (fail)
       cases gk with
       | zero => exact absurd HE.out.2.1 (by omega)
       | succ k3 =>
        go_roundg k3
        case measure => omega
        case rel => exact ⟨q - 1, r + v1, k - 1, by first | rfl | rw [w1], rfl, ⟨HQ1.out, by have h1 := HE.out; have h2 := HX.out; omega, by have h2 := HX.out; omega, by have h1 := HE.out; omega, by have h1 := HE.out; have h2 := HB0.out; omega, by have h1 := HR1.out; omega, by have h1 := HE.out; have h2 := z4P HX.out.2.1 r v1; omega⟩, ⟨_, by first | rfl | exact World.drewN_drewN _ _ _⟩⟩
     have x1 : decide (4294967296 ≤ q) = false := dF hq
     have HX := aS hq
     have hm0 : 0 ≤ q * v0 := Int.mul_nonneg (by have := HE.out; omega) (by have := HB0.out; omega)
     have hm1 : q * v0 ≤ 4294967295 * 4294967295 := Int.mul_le_mul (by omega) (by have := HB0.out; omega) (by have := HB0.out; omega) (by decide)
     have w7_ : IntKind.u64.wrap (q * v0) = q * v0 := z0P hm0 (by omega)
     clear hm0 hm1 hq
     by_cases hb : r * 4294967296 + a0 < q * v0; rotate_left
     ·have x2 : decide (r * 4294967296 + a0 < q * v0) = false := dF hb
      have HQ1 : Aside0 (q = Q) := ⟨(HGD.out (fun h => h.elim HX.out hb)).symm⟩
      clear hb w1_ HGE HGD
      go_upto_region 15 with (fail)
      go_quiet (fail)
      go_wp2_with (fail)
      go_meet
      case rel => exact ⟨by rw [← HQ1.out] <;> first | rfl | rw [w1], ⟨_, by first | rfl | exact World.drewN_drewN _ _ _⟩⟩
     have x2 : decide (r * 4294967296 + a0 < q * v0) = true := dT hb
     have HX2 := aS (HGE.out (.inr hb))
     have w1 : IntKind.u64.wrap (q - 1) = q - 1 := by rcases w1_ with h | h; exact h; exact absurd HX2.out.1 (by omega)
     clear hb w1_ HGE HGD
     by_cases hr : 4294967296 ≤ r + v1
     ·have y1 : decide (4294967296 ≤ r + v1) = true := dT hr
      have HQ1 : Aside0 (q - 1 = Q) := ⟨by rw [HX2.out.2.2, if_pos hr]⟩
      clear hr
      go_upto_region 15 with (fail)
      go_quiet (fail)
      go_wp2_with (fail)
      go_meet
      case rel => exact ⟨by rw [← HQ1.out] <;> first | rfl | rw [w1], ⟨_, by first | rfl | exact World.drewN_drewN _ _ _⟩⟩
     ·have y1 : decide (4294967296 ≤ r + v1) = false := dF hr
      have HQ1 : Aside0 (z0w v1 v0 a0 (k - 1) (q - 1) (r + v1) = Q) := ⟨by rw [HX2.out.2.2, if_neg hr]⟩
      have HR1 := aS hr
      clear hr
      go_upto_region 15 with (fail)
      go_quiet (fail)
      go_wp2_with (fail)
      cases gk with
      | zero => exact absurd HE.out.2.1 (by omega)
      | succ k3 =>
       go_roundg k3
       case measure => omega
       case rel => exact ⟨q - 1, r + v1, k - 1, by first | rfl | rw [w1], rfl, ⟨HQ1.out, by have h1 := HE.out; have h2 := HX2.out; omega, by have h2 := HX2.out; omega, by have h1 := HE.out; omega, by have h1 := HE.out; have h2 := HB0.out; omega, by have h1 := HR1.out; omega, by have h1 := HE.out; have h2 := z4P HX2.out.2.1 r v1; omega⟩, ⟨_, by first | rfl | exact World.drewN_drewN _ _ _⟩⟩
   case rest =>
    obtain ⟨rfl, ⟨nw, rfl⟩⟩ := hcut
    clear i2 i3 i4 i5 i6 i7 i8 f1 f2 f3 f4 f5 f6 f7 f8 f9 f10 f11 R1 R2 R3 R4 R5 l1 l2 l3 l4 k1
    have hCU := (Kd.zz HL.out).2.1
    have hCV := (Kd.zz HV6.out).2.1
    obtain ⟨s1, s2, s3, s4, s5, s6, s7, s0⟩ := zb3 (j := j) (m := m) (N := N) (cap := capu) (by have := HT.out; have := HJ0.out; have := HA.out; omega) (by have := HT.out; omega) hCU
    have HTK := aS (zb9 (Q := Q) (j := j) (m := m) (Wn := Wn) (Kd.yK HL.out nw) (Kd.yK HV6.out nw) (zd HB.out nw) HGT.out HA.out.2.2.2.2.1 HTL0.out HKK.out.2.1 HKK.out.2.2.2.2 HSL.out HA.out.2.2.2.1 HV.out.1.1 ⟨HGS.out.1, HGS.out.2.1⟩ (by have := HT.out; have := HJ0.out; have := HA.out; omega) (by have := HT.out; omega) HWN.out (by have := HKK.out; omega))
    have HWL : Aside0 (Wn.length = m + 3) := ⟨by have h1 := HW.out.1; rw [HWN.out] at h1; exact h1⟩
    have HNX : Aside0 (z1P v (j + 1) L = z1P v j (z0u L j (m + 3) (z0v v Wn).1) ∧ dv (List.drop j (z0u L j (m + 3) (z0v v Wn).1)) < dv v) := ⟨z9v (by have := HSL.out; have := HT.out; omega) HWN.out, by have h1 := HW.out.2.2; rw [HWN.out] at h1; exact h1⟩
    clear hCU hCV
    by_cases hb : (tkL Q Wn v 0 0).2.2 = 0; rotate_left
    ·have hb1 : ((tkL Q Wn v 0 0).2.2 == 0) = false := beq_eq_false_iff_ne.2 hb
     have HS1 : Aside0 ((z0v v Wn).1 = (gvL (tkL Q Wn v 0 0).1 v 0).1) := ⟨by rw [HST.out, if_neg hb]⟩
     rw [hb1] at HTK
     clear hb1 hb
     go_wp2_with (fail)
     (with_reducible refine HTK.out.mono ?_)
     rintro e wa ⟨rfl, hL, hBa, hk⟩
     have HLa := aS hL
     have HBa := aS hBa
     have HOa := aS (z1m (Kd.yK HO.out nw) (Ne.symm HNE.out.1) hk)
     have HVa := aS (z1m (Kd.yK HV6.out nw) (Ne.symm HGT.out) hk)
     have HGV := aS (zaf (j := j) (m := m) HLa.out HVa.out HBa.out HGT.out HA.out.2.2.2.2.1 HTL0.out HKK.out.2.1 HKK.out.2.2.2.2 HSL.out HA.out.2.2.2.1 (z3U _ _ _ _ _) (by rw [z1j]; exact HWL.out) HV.out.1.1 (by have := HT.out; have := HJ0.out; have := HA.out; omega) (by have := HT.out; omega) (by have := HKK.out; omega))
     clear hL hBa hk
     go_wp2_with (fail)
     (with_reducible refine HGV.out.mono ?_)
     rintro e wb ⟨rfl, hL, hBa, hk⟩
     replace HLa := aS hL
     replace HBa := aS hBa
     replace HOa := aS (z1m HOa.out (Ne.symm HNE.out.1) hk)
     replace HVa := aS (z1m HVa.out (Ne.symm HGT.out) hk)
     have hc := Kd.yx (0 : Int) HOa.out (j : Int) (by omega) (by have := HA.out; omega)
     rw [Int.toNat_natCast] at hc
     have R6 := hc.1
     have R7 := hc.2
     have s8 : ((j : Int) < (J : Int)) = True := eq_true (by have := HA.out; omega)
     have s9 : (j < J) = True := eq_true (by have := HA.out; omega)
     have s10 : wrap64 ((j : Int) - 1) = (j : Int) - 1 := d64 (by omega) (by have := HA.out; have := HJ0.out; have := HT.out; omega)
     clear hc hL hBa hk
     go_wp2_with (fail)
     cases gk with
     | zero => exact absurd HA.out.2.1 (by omega)
     | succ k3 =>
      go_roundg k3
      case measure => omega
      case rel =>
       have hp := (Kd.z0q HOa.out (j : Int) (IntKind.u64.wrap (Q - 1) % 4294967296)).1
       rw [Int.toNat_natCast] at hp
       have hA := HA.out
       refine ⟨(j : Int) - 1, j, z0u L j (m + 3) (gvL (tkL Q Wn v 0 0).1 v 0).1, O.set j (IntKind.u64.wrap (Q - 1) % 4294967296), by first | rfl | rw [s10], ⟨rfl, by omega, by omega, z4t hA.2.2.2.1 (z6k _ _ _), by rw [z2G (by rw [hA.2.2.2.2.1]; have := HT.out; have := HJ0.out; omega) (by rw [z4p, z1j]; exact HWL.out)]; exact hA.2.2.2.2.1, z6h hA.2.2.2.2.2.1 j (by omega), by rw [List.length_set]; exact hA.2.2.2.2.2.2⟩,
        ⟨by rw [← HS1.out, ← HNX.out.1]; exact HD.out⟩, ⟨by rw [← HS1.out]; exact HNX.out.2⟩, ⟨z4v HLa.out HNE.out.1 j _⟩, ⟨hp⟩, ⟨z4v HVa.out HNE.out.2 j _⟩, ⟨zG HBa.out (Kd.yf HOa.out g3 rfl)⟩⟩
    have hb1 : ((tkL Q Wn v 0 0).2.2 == 0) = true := by rw [hb]; rfl
    have HS1 : Aside0 ((z0v v Wn).1 = (tkL Q Wn v 0 0).1) := ⟨by rw [HST.out, if_pos hb]⟩
    rw [hb1] at HTK
    clear hb1 hb
    go_wp2_with (fail)
    (with_reducible refine HTK.out.mono ?_)
    rintro e wa ⟨rfl, hL, hBa, hk⟩
    have HLa := aS hL
    have HBa := aS hBa
    have HOa := aS (z1m (Kd.yK HO.out nw) (Ne.symm HNE.out.1) hk)
    have HVa := aS (z1m (Kd.yK HV6.out nw) (Ne.symm HGT.out) hk)
    have hc := Kd.yx (0 : Int) HOa.out (j : Int) (by omega) (by have := HA.out; omega)
    rw [Int.toNat_natCast] at hc
    have R6 := hc.1
    have R7 := hc.2
    have s8 : ((j : Int) < (J : Int)) = True := eq_true (by have := HA.out; omega)
    have s9 : (j < J) = True := eq_true (by have := HA.out; omega)
    have s10 : wrap64 ((j : Int) - 1) = (j : Int) - 1 := d64 (by omega) (by have := HA.out; have := HJ0.out; have := HT.out; omega)
    clear hc hL hBa hk
    go_wp2_with (fail)
    cases gk with
    | zero => exact absurd HA.out.2.1 (by omega)
    | succ k3 =>
     go_roundg k3
     case measure => omega
     case rel =>
      have hp := (Kd.z0q HOa.out (j : Int) (Q % 4294967296)).1
      rw [Int.toNat_natCast] at hp
      have hA := HA.out
      refine ⟨(j : Int) - 1, j, z0u L j (m + 3) (tkL Q Wn v 0 0).1, O.set j (Q % 4294967296), by first | rfl | rw [s10], ⟨rfl, by omega, by omega, z4t hA.2.2.2.1 (z3U _ _ _ _ _), by rw [z2G (by rw [hA.2.2.2.2.1]; have := HT.out; have := HJ0.out; omega) (by rw [z1j]; exact HWL.out)]; exact hA.2.2.2.2.1, z6h hA.2.2.2.2.2.1 j (by omega), by rw [List.length_set]; exact hA.2.2.2.2.2.2⟩,
       ⟨by rw [← HS1.out, ← HNX.out.1]; exact HD.out⟩, ⟨by rw [← HS1.out]; exact HNX.out.2⟩, ⟨z4v HLa.out HNE.out.1 j _⟩, ⟨hp⟩, ⟨z4v HVa.out HNE.out.2 j _⟩, ⟨zG HBa.out (Kd.yf HOa.out g3 rfl)⟩⟩
end
end
section
section
attribute [local go_sem] yd zV
theorem z94 (A B : Option Addr) (c d : Nat) (x y : List Int) (w : World) (hx : yG x) (hy : yG y) (h0 : y ≠ []) (bx : x.length ≤ 1000) (by_ : y.length ≤ 1000) (hA : Kd.C (Kd.int .u32) w A x.length x) (hc : x.length ≤ c) (hB : Kd.C (Kd.int .u32) w B y.length y) (hd : y.length ≤ d) :
 Calls Tryz.prog 235 #[.slice A x.length c, .slice B y.length d] w (z4k w x y) := by
 by_cases hlt : dv x < dv y
 ·exact za6 A B c d x y w hx hy bx by_ hA hc hB hd hlt
 ·have hl : 0 < y.length := List.length_pos_iff.2 h0
  obtain ⟨ad, rfl, _⟩ := (Kd.xv (enc := Value.int .u32) (d := (0 : Int)) (h1 := fun _ => rfl) hB).2.2 hl
  by_cases h1 : y.length = 1
  ·obtain ⟨a, rfl⟩ := List.length_eq_one_iff.1 h1
   exact div_one A ad c d x a w hx hy bx hA hc hB hd (by omega)
  ·exact za7 A ad c d (y.length - 2) x y w hx hy (by omega) bx hA hc hB hd (by omega)
def z2m (x y : List Int) : List Int := z9f (Nat.gcd (nv x) (nv y)) (Nat.gcd (nv x) (nv y))
theorem z5z (x y : List Int) : yG (z2m x y) ∧ nv (z2m x y) = Nat.gcd (nv x) (nv y) := by
 obtain ⟨h1, h2⟩ := z2U (Nat.gcd (nv x) (nv y)) (Nat.gcd (nv x) (nv y)) (Nat.le_refl _)
 refine ⟨h1, ?_⟩
 unfold nv at *
 unfold z2m nv
 rw [h2]
 rfl
theorem zbA {x y g : List Int} (hg : yG g) (h : nv g = Nat.gcd (nv x) (nv y)) : g = z2m x y := by
 obtain ⟨h1, h2⟩ := z5z x y
 refine z3x hg h1 ?_
 rw [← z0e hg.1, ← z0e h1.1, h, h2]
theorem zbC {x y r : List Int} (hx : yG x) (hy : yG y) (hr : yG r) (h0 : y ≠ []) (h : dv r = dv x % dv y) : Nat.gcd (nv y) (nv r) = Nat.gcd (nv x) (nv y) ∧ nv r < nv y := by
 have h1 := z0e hx.1
 have h2 := z0e hy.1
 have h3 := z0e hr.1
 have hp := za5 hy h0
 have e : nv r = nv x % nv y := by
  have : ((nv r : Nat) : Int) = ((nv x % nv y : Nat) : Int) := by rw [h3, h, Int.natCast_emod, h1, h2]
  exact Int.ofNat.inj this
 rw [e]
 refine ⟨?_, Nat.mod_lt _ (by omega)⟩
 rw [Nat.gcd_comm, ← Nat.gcd_rec, Nat.gcd_comm]
theorem z96 (A B : Option Addr) (c d : Nat) (x y : List Int) (w : World) (hx : yG x) (hy : yG y) (bx : x.length ≤ 1000) (by_ : y.length ≤ 1000) (hA : Kd.C (Kd.int .u32) w A x.length x) (hc : x.length ≤ c) (hB : Kd.C (Kd.int .u32) w B y.length y) (hd : y.length ≤ d) :
 Calls Tryz.prog 212 #[.slice A x.length c, .slice B y.length d] w fun e w' => ∃ v, e = .returned v ∧ Kd.R (Kd.int .u32) 145 w' w.heap.size (fun _ => True) v (z2m x y) ∧ Below w.heap.size w w' := by
 have HX := aS (show yG x ∧ yG y ∧ x.length ≤ 1000 ∧ y.length ≤ 1000 ∧ x.length ≤ c ∧ y.length ≤ d from ⟨hx, hy, bx, by_, hc, hd⟩)
 have HA := aS hA
 have HB := aS hB
 have HG : Aside0 (∀ g, yG g → nv g = Nat.gcd (nv x) (nv y) → g = z2m x y) := ⟨fun g h1 h2 => zbA h1 h2⟩
 generalize z2m x y = G at HG ⊢
 clear hx hy bx by_ hA hc hB hd
 go_enter Tryz.func212, Tryz.ntmps212
 go_wp2
 go_loopg [0, 1] (nv y + 1) (fun kq v0 v1 w' => ∃ (A2 B2 : Option Addr) (c2 d2 : Nat) (x2 y2 : List Int), v0 = .slice A2 x2.length c2 ∧ v1 = .slice B2 y2.length d2 ∧ Aside0 (yG x2 ∧ yG y2 ∧ x2.length ≤ 1000 ∧ y2.length ≤ 1000 ∧ x2.length ≤ c2 ∧ y2.length ≤ d2) ∧
  Aside0 (Nat.gcd (nv x2) (nv y2) = Nat.gcd (nv x) (nv y) ∧ nv y2 < kq) ∧ Aside0 (Kd.C (Kd.int .u32) w' A2 x2.length x2) ∧ Aside0 (Kd.C (Kd.int .u32) w' B2 y2.length y2) ∧ Aside0 (Below w.heap.size w w'))
 case atStart => exact ⟨A, B, c, d, x, y, rfl, rfl, HX, ⟨rfl, Nat.lt_succ_self _⟩, HA, HB, ⟨Below.refl _ _⟩⟩
 case round =>
  clear HX HA HB
  obtain ⟨A2, B2, c2, d2, x2, y2, rfl, rfl, HX, HN, HA, HB, HW⟩ := hrel
  by_cases h0 : y2 = []
  ·subst h0
   have hx2 := HX.out
   have HC := aS (z3v A2 c2 x2 wr HA.out (by omega))
   have hG : x2 = G := HG.out x2 hx2.1 (by rw [← HN.out.1]; exact (Nat.gcd_zero_right _).symm)
   have HX2 := aS hG
   clear hx2 hG
   go_wp2_with fail
   (with_reducible refine HC.out.mono ?_)
   rintro e wa ⟨v, rfl, hR, hb⟩
   go_wp2
   go_ret
   have h3 := HX2.out
   subst h3
   exact ⟨_, rfl, Kd.zL hR HW.out.size, bs_ HW.out hb⟩
  ·have hl : 0 < y2.length := List.length_pos_iff.2 h0
   have k1 := dT hl
   have k2 : decide ((0 : Int) < (y2.length : Int)) = true := dT (by omega)
   have HD := aS (z94 A2 B2 c2 d2 x2 y2 wr HX.out.1 HX.out.2.1 h0 HX.out.2.2.1 HX.out.2.2.2.1 HA.out HX.out.2.2.2.2.1 HB.out HX.out.2.2.2.2.2)
   have HY0 := aS h0
   clear h0 hl
   go_wp2_with fail
   (with_reducible refine HD.out.mono ?_)
   rintro e wa ⟨v1, A3, c3, r, rfl, hC, hc3, hr, hrv, hb⟩
   have HC := aS hC
   have HR := aS (And.intro hr (And.intro hrv hc3))
   have HBb := aS hb
   clear hC hr hrv hb hc3
   go_wp2_with fail
   cases gk with
   | zero => exact absurd HN.out.2 (by omega)
   | succ k3 =>
    go_roundg k3
    case measure => omega
    case rel =>
     have h1 := HR.out
     have h2 := zbC HX.out.1 HX.out.2.1 h1.1 HY0.out h1.2.1
     have h3 := z4I h1.1 HX.out.2.1 (by rw [← z0e h1.1.1, ← z0e HX.out.2.1.1]; omega)
     have h4 := HX.out
     exact ⟨B2, A3, d2, c3, y2, r, rfl, rfl, ⟨h4.2.1, h1.1, h4.2.2.2.1, by omega, h4.2.2.2.2.2, h1.2.2⟩, ⟨by rw [h2.1]; exact HN.out.1, by have := HN.out.2; omega⟩, ⟨Kd.zK HB.out HBb.out⟩, HC, ⟨bs_ HW.out HBb.out⟩⟩
def z2f.f (x y : List Int) : Option (List Int) := if z5u x = true ∧ z5u y = true ∧ x.length ≤ 1000 ∧ y.length ≤ 1000 then some (z2m x y) else none
theorem z2f.calls (A0 : Option Addr) (c0 : Nat) (l0 : List Int) (A1 : Option Addr) (c1 : Nat) (l1 : List Int) (r : List Int) (w : World) (hr0 : Kd.C (Kd.int .u32) w A0 l0.length l0) (hc0 : l0.length ≤ c0) (hr1 : Kd.C (Kd.int .u32) w A1 l1.length l1) (hc1 : l1.length ≤ c1) (h : z2f.f l0 l1 = some r) :
 Calls Tryz.prog 212 #[.slice A0 l0.length c0, .slice A1 l1.length c1] w fun e w' => ∃ v0_ : Value, e = .returned (v0_) ∧ Kd.R (Kd.int .u32) 145 w' w.heap.size (fun _ => True) v0_ r ∧ Below w.heap.size w w' := by
 unfold z2f.f at h
 by_cases hb : z5u l0 = true ∧ z5u l1 = true ∧ l0.length ≤ 1000 ∧ l1.length ≤ 1000
 ·rw [if_pos hb] at h
  obtain rfl := sI h
  exact z96 A0 A1 c0 c1 l0 l1 w (z2N.1 hb.1) (z2N.1 hb.2.1) hb.2.2.1 hb.2.2.2 hr0 hc0 hr1 hc1
 ·rw [if_neg hb] at h
  cases h
end
end
end Go.Proofs.QP

