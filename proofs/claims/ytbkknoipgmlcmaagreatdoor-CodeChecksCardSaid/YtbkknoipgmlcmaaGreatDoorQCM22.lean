import Derived.Test.YtbkknoipgmlcmaaGreatDoorQCM21
import Derived.Test.YtbkknoipgmlcmaaGreatDoorQCM19
set_option linter.unusedVariables false
set_option linter.unusedSimpArgs false
set_option maxHeartbeats 8000000
set_option maxRecDepth 100000
namespace Go.Proofs.YtbkknoipgmlcmaaGreatDoor.P
open Go.RowKit Go.Proofs.YtbkknoipgmlcmaaGreatDoorW.PrintWords Go.Proofs.YtbkknoipgmlcmaaGreatDoorW.PrintLast Go.Proofs.YtbkknoipgmlcmaaGreatDoorW.PrintMore
open Go.Proofs.FX
attribute [local go_sem] cell_twice le_add_cast
theorem div_calls (A B : Option Addr) (c d : Nat) (x y : List Int) (w : World) (hx : dCan x) (hy : dCan y) (h0 : y ≠ []) (bx : x.length ≤ 1000) (by_ : y.length ≤ 1000) (hA : Kd.C (Kd.int .u32) w A x.length x) (hc : x.length ≤ c) (hB : Kd.C (Kd.int .u32) w B y.length y) (hd : y.length ≤ d) :
 Calls Tryz.prog 235 #[.slice A x.length c, .slice B y.length d] w (DivPost w x y) := by
 by_cases hlt : dv x < dv y
 ·exact div_less A B c d x y w hx hy bx by_ hA hc hB hd hlt
 ·have hl : 0 < y.length := List.length_pos_iff.2 h0
  obtain ⟨ad, rfl, _⟩ := (Kd.reads_of_C (enc := Value.int .u32) (d := (0 : Int)) (h1 := fun _ => rfl) hB).2.2 hl
  by_cases h1 : y.length = 1
  ·obtain ⟨a, rfl⟩ := List.length_eq_one_iff.1 h1
   exact div_one A ad c d x a w hx hy bx hA hc hB hd (by omega)
  ·exact div_more A ad c d (y.length - 2) x y w hx hy (by omega) bx hA hc hB hd (by omega)
def gcdL (x y : List Int) : List Int := natL (Nat.gcd (nv x) (nv y)) (Nat.gcd (nv x) (nv y))
theorem gcdL_spec (x y : List Int) : dCan (gcdL x y) ∧ nv (gcdL x y) = Nat.gcd (nv x) (nv y) := by
 obtain ⟨h1, h2⟩ := natL_spec (Nat.gcd (nv x) (nv y)) (Nat.gcd (nv x) (nv y)) (Nat.le_refl _)
 refine ⟨h1, ?_⟩
 unfold nv at *
 unfold gcdL nv
 rw [h2]
 rfl
theorem gcdL_of {x y g : List Int} (hg : dCan g) (h : nv g = Nat.gcd (nv x) (nv y)) : g = gcdL x y := by
 obtain ⟨h1, h2⟩ := gcdL_spec x y
 refine dCan_inj hg h1 ?_
 rw [← nv_dv hg.1, ← nv_dv h1.1, h, h2]
theorem gcd_mod {x y r : List Int} (hx : dCan x) (hy : dCan y) (hr : dCan r) (h0 : y ≠ []) (h : dv r = dv x % dv y) : Nat.gcd (nv y) (nv r) = Nat.gcd (nv x) (nv y) ∧ nv r < nv y := by
 have h1 := nv_dv hx.1
 have h2 := nv_dv hy.1
 have h3 := nv_dv hr.1
 have hp := dCan_pos hy h0
 have e : nv r = nv x % nv y := by
  have : ((nv r : Nat) : Int) = ((nv x % nv y : Nat) : Int) := by rw [h3, h, Int.natCast_emod, h1, h2]
  exact Int.ofNat.inj this
 rw [e]
 refine ⟨?_, Nat.mod_lt _ (by omega)⟩
 rw [Nat.gcd_comm, ← Nat.gcd_rec, Nat.gcd_comm]
theorem gcd_calls (A B : Option Addr) (c d : Nat) (x y : List Int) (w : World) (hx : dCan x) (hy : dCan y) (bx : x.length ≤ 1000) (by_ : y.length ≤ 1000) (hA : Kd.C (Kd.int .u32) w A x.length x) (hc : x.length ≤ c) (hB : Kd.C (Kd.int .u32) w B y.length y) (hd : y.length ≤ d) :
 Calls Tryz.prog 212 #[.slice A x.length c, .slice B y.length d] w fun e w' => ∃ v, e = .returned v ∧ Kd.R (Kd.int .u32) 145 w' w.heap.size (fun _ => True) v (gcdL x y) ∧ Below w.heap.size w w' := by
 have HX := aS (show dCan x ∧ dCan y ∧ x.length ≤ 1000 ∧ y.length ≤ 1000 ∧ x.length ≤ c ∧ y.length ≤ d from ⟨hx, hy, bx, by_, hc, hd⟩)
 have HA := aS hA
 have HB := aS hB
 have HG : Aside0 (∀ g, dCan g → nv g = Nat.gcd (nv x) (nv y) → g = gcdL x y) := ⟨fun g h1 h2 => gcdL_of h1 h2⟩
 generalize gcdL x y = G at HG ⊢
 clear hx hy bx by_ hA hc hB hd
 go_enter Tryz.func212, Tryz.ntmps212
 go_wp2
 go_loopg [0, 1] (nv y + 1) (fun kq v0 v1 w' => ∃ (A2 B2 : Option Addr) (c2 d2 : Nat) (x2 y2 : List Int), v0 = .slice A2 x2.length c2 ∧ v1 = .slice B2 y2.length d2 ∧ Aside0 (dCan x2 ∧ dCan y2 ∧ x2.length ≤ 1000 ∧ y2.length ≤ 1000 ∧ x2.length ≤ c2 ∧ y2.length ≤ d2) ∧
  Aside0 (Nat.gcd (nv x2) (nv y2) = Nat.gcd (nv x) (nv y) ∧ nv y2 < kq) ∧ Aside0 (Kd.C (Kd.int .u32) w' A2 x2.length x2) ∧ Aside0 (Kd.C (Kd.int .u32) w' B2 y2.length y2) ∧ Aside0 (Below w.heap.size w w'))
 case atStart => exact ⟨A, B, c, d, x, y, rfl, rfl, HX, ⟨rfl, Nat.lt_succ_self _⟩, HA, HB, ⟨Below.refl _ _⟩⟩
 case round =>
  clear HX HA HB
  obtain ⟨A2, B2, c2, d2, x2, y2, rfl, rfl, HX, HN, HA, HB, HW⟩ := hrel
  by_cases h0 : y2 = []
  ·subst h0
   have hx2 := HX.out
   have HC := aS (clone4_calls A2 c2 x2 wr HA.out (by omega))
   have hG : x2 = G := HG.out x2 hx2.1 (by rw [← HN.out.1]; exact (Nat.gcd_zero_right _).symm)
   have HX2 := aS hG
   clear hx2 hG
   go_wp2_with fail
   (with_reducible refine HC.out.mono ?_)
   rintro e wa ⟨v, rfl, hR, hb⟩
   go_wp2
   go_ret
   have h3 := HX2.out
   subst h3
   exact ⟨_, rfl, Kd.R_lower hR HW.out.size, bs_ HW.out hb⟩
  ·have hl : 0 < y2.length := List.length_pos_iff.2 h0
   have k1 := dT hl
   have k2 : decide ((0 : Int) < (y2.length : Int)) = true := dT (by omega)
   have HD := aS (div_calls A2 B2 c2 d2 x2 y2 wr HX.out.1 HX.out.2.1 h0 HX.out.2.2.1 HX.out.2.2.2.1 HA.out HX.out.2.2.2.2.1 HB.out HX.out.2.2.2.2.2)
   have HY0 := aS h0
   clear h0 hl
   go_wp2_with fail
   (with_reducible refine HD.out.mono ?_)
   rintro e wa ⟨v1, A3, c3, r, rfl, hC, hc3, hr, hrv, hb⟩
   have HC := aS hC
   have HR := aS (And.intro hr (And.intro hrv hc3))
   have HBb := aS hb
   clear hC hr hrv hb hc3
   go_wp2_with fail
   cases gk with
   | zero => exact absurd HN.out.2 (by omega)
   | succ k3 =>
    go_roundg k3
    case measure => omega
    case rel =>
     have h1 := HR.out
     have h2 := gcd_mod HX.out.1 HX.out.2.1 h1.1 HY0.out h1.2.1
     have h3 := dCan_short h1.1 HX.out.2.1 (by rw [← nv_dv h1.1.1, ← nv_dv HX.out.2.1.1]; omega)
     have h4 := HX.out
     exact ⟨B2, A3, d2, c3, y2, r, rfl, rfl, ⟨h4.2.1, h1.1, h4.2.2.2.1, by omega, h4.2.2.2.2.2, h1.2.2⟩, ⟨by rw [h2.1]; exact HN.out.1, by have := HN.out.2; omega⟩, ⟨Kd.C_below HB.out HBb.out⟩, HC, ⟨bs_ HW.out HBb.out⟩⟩
def nat_gcd.f (x y : List Int) : Option (List Int) := if dCanB x = true ∧ dCanB y = true ∧ x.length ≤ 1000 ∧ y.length ≤ 1000 then some (gcdL x y) else none
theorem nat_gcd.calls (A0 : Option Addr) (c0 : Nat) (l0 : List Int) (A1 : Option Addr) (c1 : Nat) (l1 : List Int) (r : List Int) (w : World) (hr0 : Kd.C (Kd.int .u32) w A0 l0.length l0) (hc0 : l0.length ≤ c0) (hr1 : Kd.C (Kd.int .u32) w A1 l1.length l1) (hc1 : l1.length ≤ c1) (h : nat_gcd.f l0 l1 = some r) :
 Calls Tryz.prog 212 #[.slice A0 l0.length c0, .slice A1 l1.length c1] w fun e w' => ∃ v0_ : Value, e = .returned (v0_) ∧ Kd.R (Kd.int .u32) 145 w' w.heap.size (fun _ => True) v0_ r ∧ Below w.heap.size w w' := by
 unfold nat_gcd.f at h
 by_cases hb : dCanB l0 = true ∧ dCanB l1 = true ∧ l0.length ≤ 1000 ∧ l1.length ≤ 1000
 ·rw [if_pos hb] at h
  obtain rfl := sI h
  exact gcd_calls A0 A1 c0 c1 l0 l1 w (dCanB_iff.1 hb.1) (dCanB_iff.1 hb.2.1) hb.2.2.1 hb.2.2.2 hr0 hc0 hr1 hc1
 ·rw [if_neg hb] at h
  cases h
end Go.Proofs.YtbkknoipgmlcmaaGreatDoor.P

namespace Go.Proofs.YtbkknoipgmlcmaaGreatDoor.P
open Go.RowKit Go.Proofs.YtbkknoipgmlcmaaGreatDoorW.PrintWords Go.Proofs.YtbkknoipgmlcmaaGreatDoorW.PrintLast Go.Proofs.YtbkknoipgmlcmaaGreatDoorW.PrintMore
theorem low2 {x : List Int} (hx : dOk x) : Int.tmod (rd x 0) 2 = ((nv x % 2 : Nat) : Int) := by
 have h := nv_dv hx
 have hg := getD_digit hx 0
 have e : rd x 0 = x.getD 0 0 := rfl
 rw [e, Int.tmod_eq_emod_of_nonneg hg.1]
 have h2 : dv x % 2 = x.getD 0 0 % 2 := by
  cases x with
  | nil => rfl
  | cons d l =>
   show (d + 4294967296 * dv l) % 2 = d % 2
   omega
 rw [← h2, ← h]
 omega
theorem low2_len {x : List Int} (h : 0 < nv x) : 0 < (x.length : Int) := by
 cases x with
 | nil => exact absurd h (by decide)
 | cons d l => simp only [List.length_cons]; omega
theorem nv_inj {x y : List Int} (hx : dCan x) (hy : dCan y) (h : nv x = nv y) : x = y := dCan_inj hx hy (by rw [← nv_dv hx.1, ← nv_dv hy.1, h])
theorem rgcd_l4 {M : Nat} (HL : ∀ l, dCan l → nv l < M → l.length ≤ 100000) {t : Nat} (ht : t ≤ 100000) {R : List Int} (hR : dCan R) (hRM : nv R < M) : ∀ (n i : Nat) (x : List Int), dCan x → nv x * 2 ^ n = nv R → i + n = t → Ev (fun k => fluxionref01_Gcd.l4 k x (t : Int) (i : Int)) R
 | 0, i, x, hx, hv, hi => by
  have e : x = R := nv_inj hx hR (by rw [← hv, Nat.pow_zero, Nat.mul_one])
  subst e
  have hl := HL x hx hRM
  refine Ev.step (f := fun _ => some x) (fun k => ?_) (Ev.now _)
  simp only [fluxionref01_Gcd.l4, Option.bind_some, List.length_nil, List.nil_append, Nat.zero_add]
  rw [if_neg (by omega), if_pos (by omega)]
 | n + 1, i, x, hx, hv, hi => by
  have hxM : nv x < M := by
   have h1 : 0 < 2 ^ (n + 1) := Nat.pow_pos (by decide)
   have := Nat.le_mul_of_pos_right (nv x) h1
   omega
  have hl := HL x hx hxM
  obtain ⟨r, h1, h2, h3⟩ := rtwice_ev hx hl
  have hn : nv r = 2 * nv x := by have e1 := nv_dv h2.1; have e2 := nv_dv hx.1; omega
  have ih := rgcd_l4 HL ht hR hRM n (i + 1) r h2 (by rw [hn, ← hv, Nat.pow_succ]; generalize 2 ^ n = P; grind) (by clear hv; omega)
  have e3 : wrap64 ((i : Int) + 1) = ((i + 1 : Nat) : Int) := by rw [d64 (by omega) (by omega)]; omega
  have c1 : (i : Int) < (t : Int) := by omega
  clear hv hn hxM
  refine Ev.step (fun k => ?_) (Ev.bind h1 (f := fun k z => fluxionref01_Gcd.l4 k z (t : Int) ((i + 1 : Nat) : Int)) ih)
  simp only [fluxionref01_Gcd.l4, e3]
  rw [if_pos c1]
theorem rgcd_123 {M : Nat} (HL : ∀ l, dCan l → nv l < M → l.length ≤ 100000) {t : Int} {G : Nat} {R : List Int} (hG : G % 2 = 1) (h4 : ∀ x, dCan x → nv x = G → Ev (fun k => fluxionref01_Gcd.l4 k x t 0) R) : ∀ (n : Nat) (x y : List Int), nv x + nv y ≤ n → dCan x → dCan y → nv x < M → nv y < M → 0 < nv x → Nat.gcd (nv x) (nv y) = G →
 Ev (fun k => fluxionref01_Gcd.l1 k x y t) R ∧ (0 < nv y → Ev (fun k => fluxionref01_Gcd.l2 k x y t) R) ∧ (0 < nv y → nv x % 2 = 1 → Ev (fun k => fluxionref01_Gcd.l3 k x y t) R)
 | 0, x, y, h, _, _, _, _, h0, _ => absurd h0 (by omega)
 | n + 1, x, y, h, hx, hy, hxM, hyM, h0, hg => by
  have hlx := HL x hx hxM
  have hly := HL y hy hyM
  have L3 : 0 < nv y → nv x % 2 = 1 → Ev (fun k => fluxionref01_Gcd.l3 k x y t) R := by
   intro hy0 hxo
   have c1 := low2_len hy0
   have hlow := low2 hy.1
   by_cases hye : nv y % 2 = 0
   ·obtain ⟨r, h1, h2, h3⟩ := rhalf_ev hy.1 hly
    have hn : nv r = nv y / 2 := by have e1 := nv_dv h2.1; have e2 := nv_dv hy.1; omega
    have ih := (rgcd_123 HL hG h4 n x r (by omega) hx h2 hxM (by omega) h0 (by rw [hn]; exact gcd_half_right (by rw [show 2 * (nv y / 2) = nv y by omega]; exact hg) hG)).2.2 (by omega) hxo
    rw [hye] at hlow
    refine Ev.step (fun k => ?_) (Ev.bind h1 (f := fun k z => fluxionref01_Gcd.l3 k x z t) ih)
    simp only [fluxionref01_Gcd.l3, hlow]
    rw [if_pos c1, if_pos Int.natCast_zero]
   ·have hye1 : nv y % 2 = 1 := by omega
    rw [hye1] at hlow
    obtain ⟨c, hc, hci⟩ := rcmp_ev hx hy (by omega) (by omega)
    by_cases hcp : c > 0
    ·have hlt := hci.1 hcp
     obtain ⟨r, h1, h2, h3⟩ := rsub_ev hx hy hlx (by omega)
     have hn : nv r = nv x - nv y ∧ nv y ≤ nv x := by have e1 := nv_dv h2.1; have e2 := nv_dv hx.1; have e3 := nv_dv hy.1; omega
     have ih := (rgcd_123 HL hG h4 n y r (by omega) hy h2 hyM (by omega) hy0 (by rw [hn.1]; exact gcd_less (by rw [Nat.gcd_comm]; exact hg) hn.2)).1
     refine Ev.step (fun k => ?_) (Ev.bind hc (f := fun k c => if c > 0 then ((fluxionref01_Sub.f k x y).bind fun t306 => (fluxionref01_Gcd.l1 k y t306 t)) else ((fluxionref01_Sub.f k y x).bind fun t309 => (fluxionref01_Gcd.l1 k x t309 t))) (Ev.congr (fun k => if_pos hcp) (Ev.bind h1 ih)))
     simp only [fluxionref01_Gcd.l3, hlow]
     rw [if_pos c1, if_neg (by decide)]
    ·have hle : dv x ≤ dv y := Int.not_lt.1 (fun h => hcp (hci.2 h))
     obtain ⟨r, h1, h2, h3⟩ := rsub_ev hy hx hly hle
     have hn : nv r = nv y - nv x ∧ nv x ≤ nv y := by have e1 := nv_dv h2.1; have e2 := nv_dv hx.1; have e3 := nv_dv hy.1; omega
     have ih := (rgcd_123 HL hG h4 n x r (by omega) hx h2 hxM (by omega) h0 (by rw [hn.1]; exact gcd_less hg hn.2)).1
     refine Ev.step (fun k => ?_) (Ev.bind hc (f := fun k c => if c > 0 then ((fluxionref01_Sub.f k x y).bind fun t306 => (fluxionref01_Gcd.l1 k y t306 t)) else ((fluxionref01_Sub.f k y x).bind fun t309 => (fluxionref01_Gcd.l1 k x t309 t))) (Ev.congr (fun k => if_neg hcp) (Ev.bind h1 ih)))
     simp only [fluxionref01_Gcd.l3, hlow]
     rw [if_pos c1, if_neg (by decide)]
  have L2 : 0 < nv y → Ev (fun k => fluxionref01_Gcd.l2 k x y t) R := by
   intro hy0
   have c1 := low2_len h0
   have hlow := low2 hx.1
   by_cases hxe : nv x % 2 = 0
   ·obtain ⟨r, h1, h2, h3⟩ := rhalf_ev hx.1 hlx
    have hn : nv r = nv x / 2 := by have e1 := nv_dv h2.1; have e2 := nv_dv hx.1; omega
    have ih := (rgcd_123 HL hG h4 n r y (by omega) h2 hy (by omega) hyM (by omega) (by rw [hn]; exact gcd_half_left (by rw [show 2 * (nv x / 2) = nv x by omega]; exact hg) hG)).2.1 hy0
    rw [hxe] at hlow
    refine Ev.step (fun k => ?_) (Ev.bind h1 (f := fun k z => fluxionref01_Gcd.l2 k z y t) ih)
    simp only [fluxionref01_Gcd.l2, hlow]
    rw [if_pos c1, if_pos Int.natCast_zero]
   ·have hxo : nv x % 2 = 1 := by omega
    rw [hxo] at hlow
    refine Ev.step (fun k => ?_) (L3 hy0 hxo)
    simp only [fluxionref01_Gcd.l2, hlow]
    rw [if_pos c1, if_neg (by decide)]
  refine ⟨?_, L2, L3⟩
  by_cases hy0 : 0 < nv y
  ·refine Ev.step (fun k => ?_) (L2 hy0)
   have := low2_len hy0
   simp only [fluxionref01_Gcd.l1]
   rw [if_pos (by omega)]
  ·have hye : y = [] := (nv_zero hy).1 (by omega)
   subst hye
   have hxG : nv x = G := by rw [← hg]; exact (Nat.gcd_zero_right _).symm
   refine Ev.step (fun k => ?_) (h4 x hx hxG)
   simp only [fluxionref01_Gcd.l1]
   rw [if_neg (by simp)]
theorem rgcd_0 {M : Nat} (HL : ∀ l, dCan l → nv l < M → l.length ≤ 100000) {R : List Int} (hR : dCan R) (hRM : nv R < M) {T : Nat} (hT : T ≤ 100000) : ∀ (f : Nat) (x y : List Int) (t : Nat), nv x < 2 ^ f → t + f ≤ T → dCan x → dCan y → nv x < M → nv y < M → 0 < nv x → 0 < nv y → Nat.gcd (nv x) (nv y) * 2 ^ t = nv R →
 Ev (fun k => fluxionref01_Gcd.l0 k x y (t : Int)) R
 | 0, x, y, t, h, _, _, _, _, _, h0, _, _ => absurd h0 (by rw [Nat.pow_zero] at h; omega)
 | f + 1, x, y, t, h, ht, hx, hy, hxM, hyM, h0, hy0, hv => by
  have hh : nv x / 2 < 2 ^ f := by rw [Nat.pow_succ] at h; generalize 2 ^ f = P at h ⊢; clear hv; omega
  clear h
  have ht1 : t ≤ 100000 := Nat.le_trans (Nat.le_trans (Nat.le_add_right t (f + 1)) ht) hT
  have q5 : t + 1 + f ≤ T := by rw [Nat.add_assoc, Nat.add_comm 1 f]; exact ht
  have HV := Aside0.mk hv
  have HH := Aside0.mk hh
  have HT := Aside0.mk hT
  clear hv hh
  have c1 := low2_len h0
  have c2 := low2_len hy0
  have hlx := HL x hx hxM
  have hly := HL y hy hyM
  have lx := low2 hx.1
  have ly := low2 hy.1
  have e3 : wrap64 ((t : Int) + 1) = ((t + 1 : Nat) : Int) := by clear ht hT q5 lx ly; rw [d64 (by omega) (by omega)]; omega
  clear ht hT
  have odd : Nat.gcd (nv x) (nv y) % 2 = 1 → Ev (fun k => fluxionref01_Gcd.l1 k x y (t : Int)) R := fun hG =>
   (rgcd_123 HL hG (fun z hz hzG => by
    have h4 := rgcd_l4 HL ht1 hR hRM t 0 z hz (by rw [hzG]; exact HV.out) (Nat.zero_add _)
    rw [Int.natCast_zero] at h4
    exact h4) (nv x + nv y) x y (Nat.le_refl _) hx hy hxM hyM h0 rfl).1
  by_cases hxe : nv x % 2 = 0; rotate_left
  ·have hxo : nv x % 2 = 1 := by omega
   rw [hxo] at lx
   have hG : Nat.gcd (nv x) (nv y) % 2 = 1 := by
    rcases Nat.mod_two_eq_zero_or_one (Nat.gcd (nv x) (nv y)) with g | g
    ·have := Nat.dvd_trans (Nat.dvd_of_mod_eq_zero g) (Nat.gcd_dvd_left (nv x) (nv y))
     clear g
     omega
    ·exact g
   refine Ev.step (f := fun k => fluxionref01_Gcd.j1 k x y (t : Int) false) (fun k => ?_) (Ev.step (fun k => ?_) (odd hG))
   ·simp only [fluxionref01_Gcd.l0, lx]
    rw [if_pos c1, if_neg (by decide)]
   ·simp only [fluxionref01_Gcd.j1]
    rw [if_neg Bool.false_ne_true]
  rw [hxe] at lx
  by_cases hye : nv y % 2 = 0; rotate_left
  ·have hyo : nv y % 2 = 1 := by omega
   rw [hyo] at ly
   have hG : Nat.gcd (nv x) (nv y) % 2 = 1 := by
    rcases Nat.mod_two_eq_zero_or_one (Nat.gcd (nv x) (nv y)) with g | g
    ·have := Nat.dvd_trans (Nat.dvd_of_mod_eq_zero g) (Nat.gcd_dvd_right (nv x) (nv y))
     clear g
     omega
    ·exact g
   refine Ev.step (f := fun k => fluxionref01_Gcd.j1 k x y (t : Int) false) (fun k => ?_) (Ev.step (fun k => ?_) (odd hG))
   ·simp only [fluxionref01_Gcd.l0, lx, ly]
    rw [if_pos c1, if_pos Int.natCast_zero, if_pos c2]
    rfl
   ·simp only [fluxionref01_Gcd.j1]
    rw [if_neg Bool.false_ne_true]
  rw [hye] at ly
  obtain ⟨r, h1, h2, h3⟩ := rhalf_ev hx.1 hlx
  obtain ⟨s, g1, g2, g3⟩ := rhalf_ev hy.1 hly
  have hn : nv r = nv x / 2 := by have e1 := nv_dv h2.1; have e2 := nv_dv hx.1; omega
  have hs : nv s = nv y / 2 := by have e1 := nv_dv g2.1; have e2 := nv_dv hy.1; omega
  have e1 : nv x = 2 * nv r := by omega
  have e2 : nv y = 2 * nv s := by omega
  have q1 : nv r < M := by omega
  have q2 : nv s < M := by omega
  have q3 : 0 < nv r := by omega
  have q4 : 0 < nv s := by omega
  have hgg : Nat.gcd (nv r) (nv s) * 2 ^ (t + 1) = nv R := by
   have hv := HV.out
   rw [e1, e2, gcd_twos] at hv
   rw [← hv, Nat.pow_succ]
   generalize 2 ^ t = P
   generalize Nat.gcd (nv r) (nv s) = g
   clear hv
   grind
  have ih := rgcd_0 HL hR hRM HT.out f r s (t + 1) (by rw [hn]; exact HH.out) q5 h2 g2 q1 q2 q3 q4 hgg
  clear hgg
  refine Ev.step (f := fun k => fluxionref01_Gcd.j1 k x y (t : Int) true) (fun k => ?_) (Ev.step (f := fun k => (fluxionref01_half.f k x).bind fun t291 => (fluxionref01_half.f k y).bind fun t294 => fluxionref01_Gcd.l0 k t291 t294 ((t + 1 : Nat) : Int)) (fun k => ?_) (Ev.bind h1 (f := fun k t291 => (fluxionref01_half.f k y).bind fun t294 => fluxionref01_Gcd.l0 k t291 t294 ((t + 1 : Nat) : Int)) (Ev.bind g1 (f := fun k t294 => fluxionref01_Gcd.l0 k r t294 ((t + 1 : Nat) : Int)) ih)))
  ·simp only [fluxionref01_Gcd.l0, lx, ly]
   rw [if_pos c1, if_pos Int.natCast_zero, if_pos c2]
   rfl
  ·simp only [fluxionref01_Gcd.j1, e3]
   rw [if_pos trivial]
theorem pB_two : ∀ n : Nat, pB n = ((4294967296 ^ n : Nat) : Int)
 | 0 => rfl
 | n + 1 => by
  show 4294967296 * pB n = _
  rw [pB_two n, Nat.pow_succ]
  generalize (4294967296 : Nat) ^ n = P
  omega
theorem nv_lt {l : List Int} (h : dOk l) {n : Nat} (hl : l.length ≤ n) : nv l < 4294967296 ^ n := by
 have h1 := (dv_bound l h).2
 have h2 := pB_le hl
 have h3 := nv_dv h
 rw [pB_two n] at h2
 generalize 4294967296 ^ n = P at *
 omega
theorem nv_len {l : List Int} (h : dCan l) {n : Nat} (hn : nv l < 4294967296 ^ n) : l.length ≤ n := by
 rcases Nat.lt_or_ge n l.length with h1 | h1
 ·have h2 := (dCan_top h (n := l.length - 1) (by omega)).1
  have h3 := pB_le (show n ≤ l.length - 1 by omega)
  have h4 := nv_dv h.1
  rw [pB_two n] at h3
  generalize 4294967296 ^ n = P at *
  omega
 ·exact h1
theorem rgcd_ev {x y : List Int} (n : Nat) (hn : 32 * n ≤ 100000) (hx : dCan x) (hy : dCan y) (hy0 : y ≠ []) (bx : x.length ≤ n) (by_ : y.length ≤ n) : Ev (fun k => fluxionref01_Gcd.f k x y) (gcdL x y) := by
 obtain ⟨g1, g2⟩ := gcdL_spec x y
 have hy1 : (y.length : Int) ≠ 0 := by have := List.length_pos_iff.2 hy0; omega
 by_cases hx0 : x = []
 ·subst hx0
  have e : gcdL [] y = y := nv_inj g1 hy (by rw [g2]; exact Nat.gcd_zero_left _)
  rw [e]
  refine Ev.congr (f := fun _ => some y) (fun k => ?_) (Ev.now _)
  unfold fluxionref01_Gcd.f
  have c1 : ([] : List Int).length + y.length < 35184372088832 := by rw [List.length_nil]; omega
  rw [if_pos (show (([] : List Int).length : Int) = 0 from rfl), Option.bind_some, if_pos c1, List.nil_append]
 ·have hx1 : (x.length : Int) ≠ 0 := by have := List.length_pos_iff.2 hx0; omega
  have p1 : 0 < nv x := Nat.pos_of_ne_zero (fun h => hx0 ((nv_zero hx).1 h))
  have p2 : 0 < nv y := Nat.pos_of_ne_zero (fun h => hy0 ((nv_zero hy).1 h))
  have hle : nv (gcdL x y) ≤ nv y := by rw [g2]; exact Nat.le_of_dvd p2 (Nat.gcd_dvd_right _ _)
  have b1 := nv_lt hx.1 bx
  have b2 := nv_lt hy.1 by_
  have h := rgcd_0 (M := 4294967296 ^ n) (fun l hl hlt => by have := nv_len hl hlt; clear hlt b1 b2; omega) g1 (Nat.lt_of_le_of_lt hle b2) hn (32 * n) x y 0 (by rw [Nat.pow_mul, show (2 : Nat) ^ 32 = 4294967296 from rfl]; exact b1) (Nat.le_of_eq (Nat.zero_add _)) hx hy b1 b2 p1 p2 (by rw [g2, Nat.pow_zero, Nat.mul_one])
  refine Ev.congr (fun k => ?_) h
  unfold fluxionref01_Gcd.f
  rw [if_neg hx1, if_neg hy1]
  rfl
end Go.Proofs.YtbkknoipgmlcmaaGreatDoor.P

