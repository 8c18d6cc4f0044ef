import Derived.LoopN
import Derived.Handy
import Derived.IntWalk
import Derived.Deep.LoopGhost
import Derived.BigQuiet
import Derived.Deep.QuietTactic
import Derived.Deep.RegionHeld3
import Derived.Test.YtbkknoipgmlcmaaGreatDoorQCM17
import Derived.Test.YtbkknoipgmlcmaaGreatDoorQCM13
set_option linter.unusedVariables false
set_option linter.unusedSimpArgs false
set_option maxHeartbeats 8000000
set_option maxRecDepth 100000
namespace Go.Proofs.YtbkknoipgmlcmaaGreatDoor.P
open Go.RowKit Go.Proofs.YtbkknoipgmlcmaaGreatDoorW.PrintWords Go.Proofs.YtbkknoipgmlcmaaGreatDoorW.PrintLast Go.Proofs.YtbkknoipgmlcmaaGreatDoorW.PrintMore
open Go.Proofs.FX
attribute [local go_sem] cell_twice le_add_cast
theorem at_getD (l : List Int) (hl : dOk l) (j : Nat) : nat_at.f l (j : Int) = some (l.getD j 0) := by
 unfold nat_at.f
 by_cases h : (j : Int) < (l.length : Int)
 ·have c2 : (0 : Int) ≤ (j : Int) := by omega
  have := getD_digit hl j
  rw [if_pos h, if_pos c2, rd_nat, u64s this.1 (by omega)]
 ·rw [if_neg h, List.getD_eq_getElem?_getD, List.getElem?_eq_none (by omega)]
  rfl
abbrev RowN (W : World) (base g n cap : Nat) (xs : List Int) : Prop := Kd.R (Kd.int .u32) 145 W base (fun _ => True) (.slice (some ⟨g, 0, none⟩) n cap) xs
theorem and_low {t : Int} (h0 : 0 ≤ t) (h1 : t < 18446744073709551616) : bits .and .u64 t 4294967295 = t % 4294967296 :=
 bits_mask .u64 64 (by decide) (fun n h0 h1 => by rw [u64m]; omega) 32 (by decide) t h0 (by omega)
theorem take_dig {x t b : Int} (hx : 0 ≤ x ∧ x < 4294967296) (hb : b = 0 ∨ b = 1) :
 IntKind.u64.wrap (IntKind.u64.wrap (x - t % 4294967296) - b) % 4294967296 = (x - t % 4294967296 - b) % 4294967296 ∧
 IntKind.u64.wrap (IntKind.u64.wrap (x - t % 4294967296) - b) / 9223372036854775808 = if x - t % 4294967296 - b < 0 then 1 else 0 := by
 rw [u64m, u64m]
 constructor
 ·omega
 ·split <;> omega
theorem row_split {xs : List Int} {i n : Nat} (h : i + n ≤ xs.length) (w : List Int) : putL xs i n w = xs.take i ++ (w ++ xs.drop (i + n)) := rfl
theorem cons_of_len {U : List Int} {k : Nat} (h : U.length = k + 1) : ∃ x U', U = x :: U' ∧ U'.length = k := by
 cases U with
 | nil => cases h
 | cons x U' => exact ⟨x, U', rfl, by simpa using h⟩
theorem drop_head (v : List Int) (j : Nat) : (v.drop j).headD 0 = v.getD j 0 ∧ (v.drop j).tail = v.drop (j + 1) := by
 refine ⟨?_, by rw [List.tail_drop]⟩
 rw [List.headD_eq_head?_getD, List.head?_drop, List.getD_eq_getElem?_getD]
theorem take_calls (g i n cap capx c1 : Nat) (xs v : List Int) (q : Int) (A1 : Option Addr) (w0 w : World) (hB : Below w0.heap.size w0 w) (hR : RowN w w0.heap.size g xs.length capx xs) (hi : i + n ≤ xs.length) (hx : dOk xs) (hv : dOk v)
 (hq : 0 ≤ q ∧ q < 4294967296) (hn : n ≤ 1000000) (hin : i ≤ 1000000) (hC : ∀ W, KeepBut w W g none → Kd.C (Kd.int .u32) W A1 v.length v) (hc1 : v.length ≤ c1) :
 Calls Tryz.prog 248 #[.slice (some ⟨g, i, none⟩) n cap, .slice A1 v.length c1, .int .u64 q] w fun e w' =>
  e = .returned (.bool ((tkL q ((xs.drop i).take n) v 0 0).2.2 == 0)) ∧ RowN w' w0.heap.size g xs.length capx (putL xs i n (tkL q ((xs.drop i).take n) v 0 0).1) ∧ Below w0.heap.size w0 w' ∧ KeepBut w w' g none := by
 have HC := aS hC
 have HB := aS hB
 have HR := aS hR
 clear hC hB hR
 have hs : xs = xs.take i ++ ((xs.drop i).take n ++ xs.drop (i + n)) := by rw [← List.drop_drop, List.take_append_drop, List.take_append_drop]
 have hul : ((xs.drop i).take n).length = n := by rw [List.length_take, List.length_drop]; omega
 have huo : dOk ((xs.drop i).take n) := dOk_take (dOk_drop hx i) n
 rw [row_split hi]
 generalize hxs : xs.length = N at *
 have hpl : (xs.take i).length = i := by rw [List.length_take]; omega
 generalize xs.take i = P at *
 generalize (xs.drop i).take n = U at *
 generalize xs.drop (i + n) = Z at *
 subst hs
 have HQ := aS hq
 have HV := aS hv
 have HT := aS (show 0 ≤ n ∧ n ≤ 1000000 ∧ i ≤ 1000000 ∧ i + n ≤ N from ⟨Nat.zero_le _, hn, hin, hi⟩)
 have HC1 := aS hc1
 clear hq hx hn hin hi hv hc1
 go_enter Tryz.func248, Tryz.ntmps248
 go_wp2
 go_loopg [7, 8, 13] (n + 1) (fun kq v7 v8 v13 w' => ∃ (c b : Int) (j : Nat) (P2 U2 : List Int), v7 = .int .u64 c ∧ v8 = .int .u64 b ∧ v13 = .int .i64 (j : Int) ∧ Aside0 (kq + j = n + 1 ∧ U2.length = n - j ∧ P2.length = i + j ∧ j ≤ n ∧ 0 ≤ c ∧ c < 4294967296 ∧ (b = 0 ∨ b = 1) ∧ dOk U2 ∧ P2.length + (U2.length + Z.length) = N) ∧
  Aside0 ((tkL q U2 (v.drop j) c b).2.2 = (tkL q U v 0 0).2.2 ∧ P2 ++ ((tkL q U2 (v.drop j) c b).1 ++ Z) = P ++ ((tkL q U v 0 0).1 ++ Z)) ∧ Aside0 (RowN w' w0.heap.size g N capx (P2 ++ (U2 ++ Z))) ∧ Aside0 (KeepBut w w' g none) ∧ Aside0 (Below w0.heap.size w0 w'))
 case atStart => exact ⟨0, 0, 0, P, U, rfl, rfl, rfl, ⟨by omega, by omega, by omega, by omega, by decide, by decide, .inl rfl, huo, by rw [← hxs, List.length_append, List.length_append]⟩, ⟨rfl, rfl⟩, ⟨HR.out⟩, ⟨KeepBut.refl _ _ _⟩, HB⟩
 case round =>
  clear hul huo hxs hpl
  obtain ⟨c, b, j, P2, U2, rfl, rfl, rfl, HA, HE, HR, HK, HB⟩ := hrel
  by_cases hj : j < n; rotate_left
  ·have hU : U2 = [] := List.length_eq_zero_iff.1 (by have := HA.out; omega)
   subst hU
   have hb2 : b = (tkL q U v 0 0).2.2 := HE.out.1
   have hj1 : decide ((j : Int) < (n : Int)) = false := dF (by omega)
   have hj2 : decide (j < n) = false := dF (by omega)
   clear hj
   go_wp2
   go_ret
   have h2 := HE.out.2
   rw [hb2]
   exact ⟨rfl, by rw [← h2]; exact HR.out, HB.out, HK.out⟩
  obtain ⟨x, U3, rfl, hU3⟩ := cons_of_len (U := U2) (k := n - j - 1) (by have := HA.out; omega)
  have hA := HA.out
  have hx := (dOk_cons.1 hA.2.2.2.2.2.2.2.1).1
  have hvj := getD_digit HV.out j
  have hat := at_getD v HV.out j
  have hdh := drop_head v j
  generalize v.getD j 0 = y at hvj hat hdh
  have hm0 : 0 ≤ q * y := Int.mul_nonneg HQ.out.1 hvj.1
  have hm1 : q * y ≤ 4294967295 * 4294967295 := Int.mul_le_mul (by have := HQ.out; omega) (by omega) hvj.1 (by decide)
  have e1 : IntKind.u64.wrap (q * y) = q * y := u64s hm0 (by omega)
  have e2 : IntKind.u64.wrap (c + q * y) = c + q * y := u64s (by omega) (by omega)
  have e3 := and_low (t := c + q * y) (by omega) (by omega)
  have e4 : IntKind.u64.wrap x = x := u64s hx.1 (by omega)
  have E5 := aS (take_dig (x := x) (t := c + q * y) (b := b) hx hA.2.2.2.2.2.2.1)
  have HAT := aS hat
  have HDH := aS hdh
  have hrow := Kd.R_celln (0 : Int) HR.out ((i + j : Nat) : Int) (by omega) (by have := HT.out; omega)
  rw [Int.toNat_natCast] at hrow
  have hget : rdOf (0 : Int) (P2 ++ (x :: U3 ++ Z)) ((i + j : Nat) : Int) = x := get_at P2 x (U3 ++ Z) hA.2.2.1
  rw [hget] at hrow
  obtain ⟨hc, hf⟩ := hrow
  have hc : wr.cell? ⟨g, i + j, none⟩ = some (.int .u32 x) := hc
  have hj1 : decide ((j : Int) < (n : Int)) = true := dT (by omega)
  have hj2 : decide (j < n) = true := dT (by omega)
  have hj3 : (j < n) = True := eq_true hj
  have e6 : wrap64 ((j : Int) + 1) = ((j + 1 : Nat) : Int) := by rw [d64 (by have := HT.out; omega) (by have := HT.out; omega)]; omega
  have HX := aS hx
  have HM := aS (And.intro hm0 hm1)
  have HJ := aS hj
  clear hm0 hm1 hvj hx hA hget hj hat hdh
  go_wp2_with (go_at_call 253; (with_reducible refine (nat_at.calls A1 c1 v (j : Int) y _ (HC.out _ HK.out) HC1.out HAT.out).mono ?_); rintro e_ w1 ⟨rfl, ⟨nd, rfl⟩⟩)
  cases gk with
  | zero => exact absurd HA.out.1 (by have := HJ.out; omega)
  | succ k3 =>
   go_roundg k3
   case measure => omega
   case rel =>
    have hA := HA.out
    have hmm := HM.out
    have hE := HE.out
    simp only [tkL, HDH.out.1, HDH.out.2, ← E5.out.2] at hE
    refine ⟨_, _, j + 1, P2 ++ [(x - (c + q * y) % 4294967296 - b) % 4294967296], U3, rfl, rfl, by rw [e6], ⟨?_⟩, ⟨hE.1, ?_⟩, ⟨?_⟩, ?_, ?_⟩
    ·have hok := dOk_cons.1 hA.2.2.2.2.2.2.2.1
     have hl := hA.2.2.2.2.2.2.2.2
     have hul := hA.2.1
     simp only [List.length_append, List.length_cons, List.length_nil] at hl hul ⊢
     have e5 := E5.out.2
     refine ⟨by omega, by omega, by omega, by have := HJ.out; omega, by omega, by omega, ?_, hok.2, by omega⟩
     rw [e5]
     split <;> simp
    ·rw [← hE.2]
     simp
    ·have hp := Kd.R_putg HR.out ((i + j : Nat) : Int) ((x - (c + q * y) % 4294967296 - b) % 4294967296)
     rw [Int.toNat_natCast] at hp
     have hs2 : (P2 ++ (x :: U3 ++ Z)).set (i + j) ((x - (c + q * y) % 4294967296 - b) % 4294967296) = P2 ++ [(x - (c + q * y) % 4294967296 - b) % 4294967296] ++ (U3 ++ Z) := by
      rw [show x :: U3 ++ Z = x :: (U3 ++ Z) from rfl, set_at _ _ _ _ hA.2.2.1]
      simp
     rw [hs2] at hp
     rw [E5.out.1]
     exact Kd.R_drewN hp.1 _
    ·exact ⟨KeepBut.set_ (keep_drewN HK.out _) _ _⟩
    ·exact ⟨below_set (pw_below_drewN HB.out _) (Kd.R_base HR.out g rfl)⟩
theorem give_calls (g i n cap capx c1 : Nat) (xs v : List Int) (A1 : Option Addr) (w0 w : World) (hB : Below w0.heap.size w0 w) (hR : RowN w w0.heap.size g xs.length capx xs) (hi : i + n ≤ xs.length) (hx : dOk xs) (hv : dOk v)
 (hn : n ≤ 1000000) (hin : i ≤ 1000000) (hC : ∀ W, KeepBut w W g none → Kd.C (Kd.int .u32) W A1 v.length v) (hc1 : v.length ≤ c1) :
 Calls Tryz.prog 249 #[.slice (some ⟨g, i, none⟩) n cap, .slice A1 v.length c1] w fun e w' =>
  e = .returned (.tuple #[]) ∧ RowN w' w0.heap.size g xs.length capx (putL xs i n (gvL ((xs.drop i).take n) v 0).1) ∧ Below w0.heap.size w0 w' ∧ KeepBut w w' g none := by
 have HC := aS hC
 have HB := aS hB
 have HR := aS hR
 clear hC hB hR
 have hs : xs = xs.take i ++ ((xs.drop i).take n ++ xs.drop (i + n)) := by rw [← List.drop_drop, List.take_append_drop, List.take_append_drop]
 have hul : ((xs.drop i).take n).length = n := by rw [List.length_take, List.length_drop]; omega
 have huo : dOk ((xs.drop i).take n) := dOk_take (dOk_drop hx i) n
 rw [row_split hi]
 generalize hxs : xs.length = N at *
 have hpl : (xs.take i).length = i := by rw [List.length_take]; omega
 generalize xs.take i = P at *
 generalize (xs.drop i).take n = U at *
 generalize xs.drop (i + n) = Z at *
 subst hs
 have HV := aS hv
 have HT := aS (show 0 ≤ n ∧ n ≤ 1000000 ∧ i ≤ 1000000 ∧ i + n ≤ N from ⟨Nat.zero_le _, hn, hin, hi⟩)
 have HC1 := aS hc1
 clear hx hn hin hi hv hc1
 go_enter Tryz.func249, Tryz.ntmps249
 go_wp2
 go_loopg [4, 8] (n + 1) (fun kq v4 v8 w' => ∃ (c : Int) (j : Nat) (P2 U2 : List Int), v4 = .int .u64 c ∧ v8 = .int .i64 (j : Int) ∧ Aside0 (kq + j = n + 1 ∧ U2.length = n - j ∧ P2.length = i + j ∧ j ≤ n ∧ 0 ≤ c ∧ c ≤ 1 ∧ dOk U2 ∧ P2.length + (U2.length + Z.length) = N) ∧
  Aside0 (P2 ++ ((gvL U2 (v.drop j) c).1 ++ Z) = P ++ ((gvL U v 0).1 ++ Z)) ∧ Aside0 (RowN w' w0.heap.size g N capx (P2 ++ (U2 ++ Z))) ∧ Aside0 (KeepBut w w' g none) ∧ Aside0 (Below w0.heap.size w0 w'))
 case atStart => exact ⟨0, 0, P, U, rfl, rfl, ⟨by omega, by omega, by omega, by omega, by decide, by decide, huo, by rw [← hxs, List.length_append, List.length_append]⟩, ⟨rfl⟩, ⟨HR.out⟩, ⟨KeepBut.refl _ _ _⟩, HB⟩
 case round =>
  clear hul huo hxs hpl
  obtain ⟨c, j, P2, U2, rfl, rfl, HA, HE, HR, HK, HB⟩ := hrel
  by_cases hj : j < n; rotate_left
  ·have hU : U2 = [] := List.length_eq_zero_iff.1 (by have := HA.out; omega)
   subst hU
   have hj1 : decide ((j : Int) < (n : Int)) = false := dF (by omega)
   have hj2 : decide (j < n) = false := dF (by omega)
   clear hj
   go_wp2
   have h2 := HE.out
   first | go_end0 | ((try simp only [Exit.inBlock, Exit.then]); refine bodyPost_ret (results_none rfl _ _ _) rfl ?_)
   exact ⟨rfl, by rw [← h2]; exact HR.out, HB.out, HK.out⟩
  obtain ⟨x, U3, rfl, hU3⟩ := cons_of_len (U := U2) (k := n - j - 1) (by have := HA.out; omega)
  have hA := HA.out
  have hx := (dOk_cons.1 hA.2.2.2.2.2.2.1).1
  have hvj := getD_digit HV.out j
  have hat := at_getD v HV.out j
  have hdh := drop_head v j
  generalize v.getD j 0 = y at hvj hat hdh
  have e1 : IntKind.u64.wrap (x + y) = x + y := u64s (by omega) (by omega)
  have e2 : IntKind.u64.wrap (c + (x + y)) = c + (x + y) := u64s (by omega) (by omega)
  have e4 : IntKind.u64.wrap x = x := u64s hx.1 (by omega)
  have HAT := aS hat
  have HDH := aS hdh
  have hrow := Kd.R_celln (0 : Int) HR.out ((i + j : Nat) : Int) (by omega) (by have := HT.out; omega)
  rw [Int.toNat_natCast] at hrow
  have hget : rdOf (0 : Int) (P2 ++ (x :: U3 ++ Z)) ((i + j : Nat) : Int) = x := get_at P2 x (U3 ++ Z) hA.2.2.1
  rw [hget] at hrow
  obtain ⟨hc, hf⟩ := hrow
  have hc : wr.cell? ⟨g, i + j, none⟩ = some (.int .u32 x) := hc
  have hj1 : decide ((j : Int) < (n : Int)) = true := dT (by omega)
  have hj2 : decide (j < n) = true := dT (by omega)
  have hj3 : (j < n) = True := eq_true hj
  have e6 : wrap64 ((j : Int) + 1) = ((j + 1 : Nat) : Int) := by rw [d64 (by have := HT.out; omega) (by have := HT.out; omega)]; omega
  have HX := aS hx
  have HY := aS hvj
  have HJ := aS hj
  clear hvj hx hA hget hj hat hdh
  go_wp2
  go_region_held3 (fun w' => w'.cell? ⟨g, i + j, none⟩ = some (.int .u32 x)) ((first | assumption | exact hc)) ((first
   | (go_at_call 253; (with_reducible refine (nat_at.calls A1 c1 v (j : Int) y _ (HC.out _ (by first | exact HK.out | (repeat (first | apply keep_drewN | apply keep_drew)); exact HK.out)) HC1.out HAT.out).mono ?_); rintro e_ w1 ⟨rfl, ⟨nd, rfl⟩⟩)
   | fail))
  go_wp2
  cases gk with
  | zero => exact absurd HA.out.1 (by have := HJ.out; omega)
  | succ k3 =>
   go_roundg k3
   case measure => omega
   case rel =>
    have hA := HA.out
    have hE := HE.out
    have hxx := HX.out
    have hyy := HY.out
    simp only [gvL, HDH.out.1, HDH.out.2] at hE
    refine ⟨_, j + 1, P2 ++ [(c + (x + y)) % 4294967296], U3, rfl, by rw [e6], ⟨?_⟩, ⟨?_⟩, ⟨?_⟩, ?_, ?_⟩
    ·have hok := dOk_cons.1 hA.2.2.2.2.2.2.1
     have hl := hA.2.2.2.2.2.2.2
     have hul := hA.2.1
     simp only [List.length_append, List.length_cons, List.length_nil] at hl hul ⊢
     refine ⟨by omega, by omega, by omega, by have := HJ.out; omega, by omega, by omega, hok.2, by omega⟩
    ·rw [← hE]
     simp
    ·have hp := Kd.R_putg HR.out ((i + j : Nat) : Int) ((c + (x + y)) % 4294967296)
     rw [Int.toNat_natCast] at hp
     have hs2 : (P2 ++ (x :: U3 ++ Z)).set (i + j) ((c + (x + y)) % 4294967296) = P2 ++ [(c + (x + y)) % 4294967296] ++ (U3 ++ Z) := by
      rw [show x :: U3 ++ Z = x :: (U3 ++ Z) from rfl, set_at _ _ _ _ hA.2.2.1]
      simp
     rw [hs2] at hp
     exact Kd.R_drewN hp.1 _
    ·exact ⟨KeepBut.set_ (keep_drewN HK.out _) _ _⟩
    ·exact ⟨below_set (pw_below_drewN HB.out _) (Kd.R_base HR.out g rfl)⟩
def trimN (l : List Int) : Nat → Nat
 | 0 => 0
 | n + 1 => if l.getD n 0 = 0 then trimN l n else n + 1
theorem trimN_le (l : List Int) : ∀ n, trimN l n ≤ n
 | 0 => Nat.le_refl _
 | n + 1 => by
  unfold trimN
  split
  ·have := trimN_le l n; omega
  ·omega
theorem trimN_dv {l : List Int} (h : dOk l) : ∀ n, n ≤ l.length → dCan (l.take (trimN l n)) ∧ dv (l.take (trimN l n)) = dv (l.take n)
 | 0, _ => ⟨⟨(fun d hd => by simp [trimN] at hd), fun hn => absurd (by simp [trimN]) hn⟩, rfl⟩
 | n + 1, hn => by
  unfold trimN
  by_cases h0 : l.getD n 0 = 0
  ·rw [if_pos h0]
   obtain ⟨h1, h2⟩ := trimN_dv h n (by omega)
   refine ⟨h1, ?_⟩
   rw [h2, take_snoc' (by omega), dv_snoc, h0, Int.mul_zero, Int.add_zero]
  ·rw [if_neg h0]
   have hl : (l.take (n + 1)).length = n + 1 := by rw [List.length_take]; omega
   refine ⟨⟨dOk_take h _, fun hne => ?_⟩, rfl⟩
   rw [last_getD hl hne, List.getD_eq_getElem?_getD, List.getElem?_take_of_lt (by omega), ← List.getD_eq_getElem?_getD]
   exact h0
theorem trim_same (g cap : Nat) (l : List Int) (w0 w : World) (hR : RowN w w0.heap.size g l.length cap l) (hb : l.length ≤ 1000000) :
 Calls Tryz.prog 220 #[.slice (some ⟨g, 0, none⟩) l.length cap] w fun e w' => e = .returned (.slice (some ⟨g, 0, none⟩) (trimN l l.length) cap) ∧ Drawn0 w w' := by
 have HR := aS hR
 have HB := aS hb
 have HC := aS (Kd.R_reads' hR).2.1
 clear hR hb
 go_enter Tryz.func220, Tryz.ntmps220
 go_wp2
 go_loopg [0] (l.length + 1) (fun kq v0 w' => ∃ n : Nat, v0 = .slice (some ⟨g, 0, none⟩) n cap ∧ Aside0 (kq = n + 1 ∧ n ≤ l.length ∧ trimN l n = trimN l l.length) ∧ Drawn0 w w')
 case atStart => exact ⟨l.length, rfl, ⟨rfl, Nat.le_refl _, rfl⟩, ⟨0, rfl⟩⟩
 case round =>
  obtain ⟨n, rfl, HN, ⟨nd, rfl⟩⟩ := hrel
  cases n with
  | zero =>
   have h1 : trimN l l.length = 0 := HN.out.2.2.symm
   go_wp2
   go_ret
   rw [h1]
   exact ⟨rfl, ⟨_, rfl⟩⟩
  | succ n =>
   have hn := HN.out
   have hr := (Kd.R_celln (0 : Int) HR.out ((n : Nat) : Int) (by omega) (by omega)).1
   rw [Int.toNat_natCast] at hr
   have r1 : w.cell? ⟨g, n, none⟩ = some (.int .u32 (l.getD n 0)) := hr
   have e1 : wrap64 (((n + 1 : Nat) : Int) - 1) = (n : Int) := by rw [d64 (by have := HB.out; omega) (by have := HB.out; omega)]; omega
   have e2 : wrap64 ((n : Int) + 1 - 1) = (n : Int) := by rw [d64 (by have := HB.out; omega) (by have := HB.out; omega)]; omega
   have e3 : wrap64 (n : Int) = (n : Int) := d64 (by omega) (by have := HB.out; omega)
   have c3 : (0 ≤ (n : Int)) = True := eq_true (by omega)
   have c1 : (n ≤ cap) = True := eq_true (by have := HC.out; omega)
   have c2 : ((n : Int) ≤ (cap : Int)) = True := eq_true (by have := HC.out; omega)
   have hstep : trimN l (n + 1) = if l.getD n 0 = 0 then trimN l n else n + 1 := rfl
   generalize l.getD n 0 = x at r1 hstep
   have HS := aS hstep
   clear hn hr hstep
   by_cases hx : x = 0
   ·subst hx
    go_wp2
    cases gk with
    | zero => exact absurd HN.out.1 (by omega)
    | succ k3 =>
     go_roundg k3
     case measure => omega
     case rel => exact ⟨n, rfl, ⟨by have := HN.out; omega, by have := HN.out; omega, by rw [← HN.out.2.2, HS.out]; simp⟩, ⟨_, rfl⟩⟩
   ·have x1 : (x == 0) = false := beq_eq_false_iff_ne.2 hx
    have h1 : trimN l l.length = n + 1 := by rw [← HN.out.2.2, HS.out, if_neg hx]
    clear hx HS
    go_wp2
    go_ret
    rw [h1]
    exact ⟨rfl, ⟨_, rfl⟩⟩
end Go.Proofs.YtbkknoipgmlcmaaGreatDoor.P

namespace Go.Proofs.YtbkknoipgmlcmaaGreatDoor.P
def nv (l : List Int) : Nat := (dv l).toNat
theorem nv_dv {l : List Int} (h : dOk l) : ((nv l : Nat) : Int) = dv l := Int.toNat_of_nonneg (dv_bound l h).1
theorem nv_zero {l : List Int} (h : dCan l) : nv l = 0 ↔ l = [] := by
 have h1 := nv_dv h.1
 constructor
 ·intro h0
  exact dCan_zero h (by rw [← h1, h0]; rfl)
 ·intro h0
  subst h0
  rfl
theorem gcd_twos (a b : Nat) : Nat.gcd (2 * a) (2 * b) = 2 * Nat.gcd a b := Nat.gcd_mul_left 2 a b
theorem gcd_half_left {a b G : Nat} (h : Nat.gcd (2 * a) b = G) (hG : G % 2 = 1) : Nat.gcd a b = G := by
 have hb : Nat.Coprime 2 b := by
  rcases Nat.mod_two_eq_zero_or_one b with h0 | h1
  ·exfalso
   have : 2 ∣ G := by rw [← h]; exact Nat.dvd_gcd ⟨a, rfl⟩ (Nat.dvd_of_mod_eq_zero h0)
   omega
  ·show Nat.gcd 2 b = 1
   rw [Nat.gcd_rec, h1]
   rfl
 rw [← h, hb.gcd_mul_left_cancel]
theorem gcd_half_right {a b G : Nat} (h : Nat.gcd a (2 * b) = G) (hG : G % 2 = 1) : Nat.gcd a b = G := by
 rw [Nat.gcd_comm] at h ⊢
 exact gcd_half_left h hG
theorem gcd_less {a b G : Nat} (h : Nat.gcd a b = G) (hle : a ≤ b) : Nat.gcd a (b - a) = G := by
 rw [Nat.gcd_sub_self_right hle, h]
def natL : Nat → Nat → List Int
 | 0, _ => []
 | f + 1, n => if n = 0 then [] else ((n % 4294967296 : Nat) : Int) :: natL f (n / 4294967296)
theorem natL_spec : ∀ (f n : Nat), n ≤ f → dCan (natL f n) ∧ dv (natL f n) = (n : Int)
 | 0, n, h => by
  have : n = 0 := by omega
  subst this
  exact ⟨⟨(fun d hd => by cases hd), fun hn => absurd rfl hn⟩, rfl⟩
 | f + 1, n, h => by
  unfold natL
  by_cases h0 : n = 0
  ·rw [if_pos h0, h0]
   exact ⟨⟨(fun d hd => by cases hd), fun hn => absurd rfl hn⟩, rfl⟩
  rw [if_neg h0]
  obtain ⟨⟨h1, h2⟩, h3⟩ := natL_spec f (n / 4294967296) (by omega)
  generalize natL f (n / 4294967296) = l0 at *
  refine ⟨⟨dOk_cons.2 ⟨by omega, h1⟩, fun hn => ?_⟩, ?_⟩
  ·cases l0 with
   | nil =>
    simp only [dv] at h3
    simp only [List.getLast_singleton]
    omega
   | cons a l =>
    rw [List.getLast_cons (List.cons_ne_nil a l)]
    exact h2 (List.cons_ne_nil a l)
  ·simp only [dv]
   rw [h3]
   omega
def dCanB (l : List Int) : Bool := l.all (fun d => decide (0 ≤ d ∧ d < 4294967296)) && (l.getLast? != some 0)
theorem dCanB_iff {l : List Int} : dCanB l = true ↔ dCan l := by
 unfold dCanB dCan dOk
 rw [Bool.and_eq_true, List.all_eq_true]
 constructor
 ·rintro ⟨h1, h2⟩
  refine ⟨fun d hd => by simpa using h1 d hd, fun hn h0 => ?_⟩
  rw [List.getLast?_eq_some_getLast hn, h0] at h2
  simp at h2
 ·rintro ⟨h1, h2⟩
  refine ⟨fun d hd => by simpa using h1 d hd, ?_⟩
  cases l with
  | nil => rfl
  | cons a l =>
   rw [List.getLast?_eq_some_getLast (List.cons_ne_nil a l)]
   have := h2 (List.cons_ne_nil a l)
   simpa using this
theorem dCan_short {r y : List Int} (hr : dCan r) (hy : dCan y) (h : dv r ≤ dv y) : r.length ≤ y.length := by
 rcases Nat.lt_or_ge y.length r.length with h1 | h1
 ·have h2 := (dv_bound y hy.1).2
  have h3 := (dCan_top hr (n := r.length - 1) (by omega)).1
  have := pB_le (show y.length ≤ r.length - 1 by omega)
  omega
 ·exact h1
end Go.Proofs.YtbkknoipgmlcmaaGreatDoor.P

namespace Go.Proofs.YtbkknoipgmlcmaaGreatDoor.P
open Go.RowKit Go.Proofs.YtbkknoipgmlcmaaGreatDoorW.PrintWords Go.Proofs.YtbkknoipgmlcmaaGreatDoorW.PrintLast Go.Proofs.YtbkknoipgmlcmaaGreatDoorW.PrintMore
theorem rshort_l {l : List Int} (hb : l.length ≤ 1000000) : ∀ n : Nat, n ≤ l.length → Ev (fun k => fluxionref01_short.l0 k l (n : Int)) (l.take (trimN l n))
 | 0, _ => by
  refine Ev.step (f := fun _ => some (l.take 0)) (fun k => ?_) (Ev.now _)
  simp only [fluxionref01_short.l0]
  rw [if_neg (by omega), if_pos (by omega), if_pos (by omega)]
  rfl
 | n + 1, h => by
  have e1 : wrap64 (((n + 1 : Nat) : Int) - 1) = (n : Int) := by rw [d64 (by omega) (by omega)]; omega
  by_cases h0 : l.getD n 0 = 0
  ·have ih := rshort_l hb n (by omega)
   have et : trimN l (n + 1) = trimN l n := by show (if l.getD n 0 = 0 then trimN l n else n + 1) = _; rw [if_pos h0]
   rw [et]
   refine Ev.step (fun k => ?_) ih
   simp only [fluxionref01_short.l0, e1, rd_nat, h0]
   rw [if_pos (by omega), if_pos (by omega), if_pos (by omega), if_pos trivial]
  ·have et : trimN l (n + 1) = n + 1 := by show (if l.getD n 0 = 0 then trimN l n else n + 1) = _; rw [if_neg h0]
   rw [et]
   refine Ev.step (f := fun _ => some (l.take (n + 1))) (fun k => ?_) (Ev.now _)
   simp only [fluxionref01_short.l0, e1, rd_nat]
   rw [if_pos (by omega), if_pos (by omega), if_pos (by omega), if_neg h0, if_pos (by omega), if_pos (by omega), Int.toNat_natCast]
theorem rshort_ev {l : List Int} (hl : dOk l) (hb : l.length ≤ 1000000) : ∃ r, Ev (fun k => fluxionref01_short.f k l) r ∧ dCan r ∧ dv r = dv l := by
 obtain ⟨h1, h2⟩ := trimN_dv hl l.length (Nat.le_refl _)
 rw [List.take_of_length_le (Nat.le_refl _)] at h2
 exact ⟨_, rshort_l hb l.length (Nat.le_refl _), h1, h2⟩
theorem rhalf_l {x : List Int} (hx : dOk x) (hb : x.length ≤ 100000) : ∀ (n : Nat) (z : List Int) (b : Int), n ≤ x.length → z.length = x.length - n → dOk z → dv z = dv (x.drop n) / 2 → b = dv (x.drop n) % 2 →
 ∃ r, Ev (fun k => fluxionref01_half.l0 k x (List.replicate n 0 ++ z) b ((n : Int) - 1)) r ∧ dCan r ∧ dv r = dv x / 2
 | 0, z, b, _, hz, hok, hv, _ => by
  obtain ⟨r, h1, h2, h3⟩ := rshort_ev hok (by omega)
  refine ⟨r, ?_, h2, by rw [h3, hv, List.drop_zero]⟩
  refine Ev.step (f := fun k => (fluxionref01_short.f k z).bind fun t => some t) (fun k => ?_) (Ev.bind h1 (Ev.now _))
  simp only [fluxionref01_half.l0]
  rw [if_neg (by omega)]
  rfl
 | n + 1, z, b, hn, hz, hok, hv, hbb => by
  have hg := getD_digit hx n
  have hd := drop_one (l := x) (n := n) (by omega)
  have e0 : (((n + 1 : Nat) : Int) - 1) = (n : Int) := by omega
  have e1 : wrap64 ((n : Int) - 1) = (n : Int) - 1 := d64 (by omega) (by omega)
  have hb2 : 0 ≤ b ∧ b < 2 := by omega
  have eo := (or_u32 (i := 31) (a := (b * 2147483648) % 4294967296) (b := x.getD n 0 / 2) (by omega) (by omega) (by omega) (by omega)).2
  have et : Int.tmod (x.getD n 0) 2 = x.getD n 0 % 2 := Int.tmod_eq_emod_of_nonneg hg.1
  have hset : (List.replicate (n + 1) 0 ++ z).set n ((b * 2147483648) % 4294967296 + x.getD n 0 / 2) = List.replicate n 0 ++ ((b * 2147483648) % 4294967296 + x.getD n 0 / 2) :: z := by
   rw [List.replicate_succ', List.append_assoc]
   exact set_at _ _ _ _ (List.length_replicate ..)
  have hlen : (List.replicate (n + 1) 0 ++ z).length = x.length := by rw [List.length_append, List.length_replicate]; omega
  have hdv : dv (x.drop n) = x.getD n 0 + 4294967296 * dv (x.drop (n + 1)) := by rw [hd]; rfl
  obtain ⟨r, h1, h2, h3⟩ := rhalf_l hx hb n (((b * 2147483648) % 4294967296 + x.getD n 0 / 2) :: z) (x.getD n 0 % 2) (by omega) (by rw [List.length_cons]; omega) (dOk_cons.2 ⟨by omega, hok⟩) (by rw [hdv]; simp only [dv]; rw [hv]; omega) (by rw [hdv]; omega)
  refine ⟨r, Ev.step (fun k => ?_) h1, h2, h3⟩
  rw [e0]
  simp only [fluxionref01_half.l0, rd_nat, eo, et, e1, hlen, Int.toNat_natCast, hset]
  rw [if_pos (by omega), if_pos (by omega), if_pos (by omega), if_pos (by omega)]
theorem rhalf_ev {x : List Int} (hx : dOk x) (hb : x.length ≤ 100000) : ∃ r, Ev (fun k => fluxionref01_half.f k x) r ∧ dCan r ∧ dv r = dv x / 2 := by
 obtain ⟨r, h1, h2, h3⟩ := rhalf_l hx hb x.length [] 0 (Nat.le_refl _) (by simp) (fun d hd => by cases hd) (by rw [List.drop_of_length_le (Nat.le_refl _)]; rfl) (by rw [List.drop_of_length_le (Nat.le_refl _)]; rfl)
 refine ⟨r, Ev.congr (fun k => ?_) h1, h2, h3⟩
 unfold fluxionref01_half.f
 rw [if_pos (by omega), Int.toNat_natCast, if_pos (by omega), d64 (by omega) (by omega), List.append_nil]
theorem rcmp_l {x y : List Int} (hx : dOk x) (hy : dOk y) (hl : x.length = y.length) (hb : x.length ≤ 1000000) : ∀ n : Nat, n ≤ x.length → x.drop n = y.drop n →
 ∃ c, Ev (fun k => fluxionref01_Compare.l0 k x y ((n : Int) - 1)) c ∧ (c > 0 ↔ dv y < dv x)
 | 0, _, hd => by
  have : x = y := by simpa using hd
  subst this
  refine ⟨0, Ev.step (f := fun _ => some 0) (fun k => ?_) (Ev.now _), by omega⟩
  simp only [fluxionref01_Compare.l0]
  rw [if_neg (by omega)]
 | n + 1, hn, hd => by
  have e0 : (((n + 1 : Nat) : Int) - 1) = (n : Int) := by omega
  have e1 : wrap64 ((n : Int) - 1) = (n : Int) - 1 := d64 (by omega) (by omega)
  by_cases he : x.getD n 0 = y.getD n 0
  ·obtain ⟨c, hc, hi⟩ := rcmp_l hx hy hl hb n (by omega) (by rw [drop_one (by omega), drop_one (l := y) (by omega), he, hd])
   refine ⟨c, Ev.step (fun k => ?_) hc, hi⟩
   rw [e0]
   simp only [fluxionref01_Compare.l0, rd_nat, he, e1]
   rw [if_pos (by omega), if_pos (by omega), if_pos (by omega), if_pos (by omega), if_neg (by omega), if_neg (by omega)]
  have hv : dv y < dv x ↔ y.getD n 0 < x.getD n 0 := by
   have h1 := dv_cut x n (by omega)
   have h2 := dv_cut y n (by omega)
   have b1 := dv_bound _ (dOk_take hx n)
   have b2 := dv_bound _ (dOk_take hy n)
   rw [List.length_take, Nat.min_eq_left (by omega)] at b1 b2
   rw [drop_one (by omega)] at h1
   rw [drop_one (by omega), ← hd] at h2
   simp only [dv] at h1 h2
   generalize dv (x.drop (n + 1)) = t at h1 h2
   generalize x.getD n 0 = a at *
   generalize y.getD n 0 = b at *
   have hp := pB_pos n
   rcases Int.lt_or_gt_of_ne he with h | h
   ·have := Int.mul_le_mul_of_nonneg_left (show a + 1 + 4294967296 * t ≤ b + 4294967296 * t by omega) (Int.le_of_lt hp)
    have e : pB n * (a + 1 + 4294967296 * t) = pB n * (a + 4294967296 * t) + pB n := by grind
    omega
   ·have := Int.mul_le_mul_of_nonneg_left (show b + 1 + 4294967296 * t ≤ a + 4294967296 * t by omega) (Int.le_of_lt hp)
    have e : pB n * (b + 1 + 4294967296 * t) = pB n * (b + 4294967296 * t) + pB n := by grind
    omega
  have hxr : rd x (n : Int) = x.getD n 0 := rd_nat x n
  have hyr : rd y (n : Int) = y.getD n 0 := rd_nat y n
  by_cases hlt : x.getD n 0 < y.getD n 0
  ·refine ⟨-1, Ev.step (f := fun _ => some (-1)) (fun k => ?_) (Ev.now _), by rw [hv]; omega⟩
   rw [e0]
   unfold fluxionref01_Compare.l0
   rw [hxr, hyr, if_pos (by omega), if_pos (by omega), if_pos (by omega), if_pos (by omega), if_pos hlt]
  ·refine ⟨1, Ev.step (f := fun _ => some 1) (fun k => ?_) (Ev.now _), by rw [hv]; omega⟩
   rw [e0]
   unfold fluxionref01_Compare.l0
   rw [hxr, hyr, if_pos (by omega), if_pos (by omega), if_pos (by omega), if_pos (by omega), if_neg hlt, if_pos (by omega)]
theorem rcmp_ev {x y : List Int} (hx : dCan x) (hy : dCan y) (hbx : x.length ≤ 1000000) (hby : y.length ≤ 1000000) : ∃ c, Ev (fun k => fluxionref01_Compare.f k x y) c ∧ (c > 0 ↔ dv y < dv x) := by
 have key : ∀ {x y : List Int}, dCan x → dCan y → x.length < y.length → dv x < dv y := by
  intro x y hx hy h
  have h1 := (dv_bound x hx.1).2
  have h2 := (dCan_top hy (n := y.length - 1) (by omega)).1
  have := pB_le (show x.length ≤ y.length - 1 by omega)
  omega
 rcases Nat.lt_trichotomy x.length y.length with h | h | h
 ·refine ⟨-1, Ev.congr (f := fun _ => some (-1)) (fun k => ?_) (Ev.now _), by have := key hx hy h; omega⟩
  unfold fluxionref01_Compare.f
  rw [if_neg (by omega), if_pos (by omega)]
 ·obtain ⟨c, hc, hi⟩ := rcmp_l hx.1 hy.1 h hbx x.length (Nat.le_refl _) (by rw [List.drop_of_length_le (Nat.le_refl _), List.drop_of_length_le (by omega)])
  refine ⟨c, Ev.congr (fun k => ?_) hc, hi⟩
  unfold fluxionref01_Compare.f
  rw [if_pos (by omega), d64 (by omega) (by omega)]
 ·refine ⟨1, Ev.congr (f := fun _ => some 1) (fun k => ?_) (Ev.now _), by have := key hy hx h; omega⟩
  unfold fluxionref01_Compare.f
  rw [if_neg (by omega), if_neg (by omega)]
theorem rdigit (l : List Int) (hl : dOk l) (j : Nat) : fluxionref01_digit.f l (j : Int) = some (l.getD j 0) := by
 unfold fluxionref01_digit.f
 by_cases h : (j : Int) < (l.length : Int)
 ·have c2 : (0 : Int) ≤ (j : Int) := by omega
  have := getD_digit hl j
  rw [if_pos h, if_pos c2, rd_nat, u64s this.1 (by omega)]
 ·rw [if_neg h, List.getD_eq_getElem?_getD, List.getElem?_eq_none (by omega)]
  rfl
theorem dv_take_next (x : List Int) (i : Nat) : dv (x.take (i + 1)) = dv (x.take i) + pB i * x.getD i 0 := by
 rcases Nat.lt_or_ge i x.length with h | h
 ·exact dv_take_succ x i h
 ·rw [List.take_of_length_le (by omega), List.take_of_length_le h, List.getD_eq_getElem?_getD, List.getElem?_eq_none h]
  simp
theorem rsub_digit {a b c : Int} (ha : 0 ≤ a ∧ a < 4294967296) (hb : 0 ≤ b ∧ b < 4294967296) (hc : c = 0 ∨ c = 1) :
 ∃ d c2, IntKind.u64.wrap ((IntKind.u64.wrap ((IntKind.u64.wrap ((IntKind.u64.wrap a) + 4294967296)) - b)) - c) % 4294967296 = d ∧ IntKind.u64.wrap (1 - (IntKind.u64.wrap ((IntKind.u64.wrap ((IntKind.u64.wrap ((IntKind.u64.wrap a) + 4294967296)) - b)) - c)) / 4294967296) = c2 ∧
  (0 ≤ d ∧ d < 4294967296) ∧ (c2 = 0 ∨ c2 = 1) ∧ d = a - b - c + 4294967296 * c2 := by
 refine ⟨_, _, rfl, rfl, ?_⟩
 rw [u64s (n := a) (by omega) (by omega), u64s (n := a + 4294967296) (by omega) (by omega), u64s (n := a + 4294967296 - b) (by omega) (by omega), u64s (n := a + 4294967296 - b - c) (by omega) (by omega)]
 generalize hq : a + 4294967296 - b - c = q
 have h1 : q / 4294967296 = 0 ∨ q / 4294967296 = 1 := by omega
 rw [u64s (n := 1 - q / 4294967296) (by omega) (by omega)]
 omega
theorem rsub_l {x y : List Int} (hx : dOk x) (hy : dOk y) (hb : x.length ≤ 100000) {r : List Int} (hfin : ∀ z c, z.length = x.length → dOk z → (c = 0 ∨ c = 1) → dv z = dv x - dv (y.take x.length) + pB x.length * c → Ev (fun k => fluxionref01_short.f k z) r) :
 ∀ (m i : Nat) (z : List Int) (c : Int), i + m = x.length → z.length = i → dOk z → (c = 0 ∨ c = 1) → dv z = dv (x.take i) - dv (y.take i) + pB i * c →
  Ev (fun k => fluxionref01_Sub.l0 k x y (z ++ List.replicate m 0) c (i : Int)) r
 | 0, i, z, c, hi, hz, hok, hc, hv => by
  have h := hfin z c (by omega) hok hc (by rw [hv, show i = x.length by omega, List.take_of_length_le (Nat.le_refl _)])
  refine Ev.step (f := fun k => (fluxionref01_short.f k z).bind fun t => some t) (fun k => ?_) (Ev.bind h (Ev.now _))
  simp only [fluxionref01_Sub.l0]
  rw [if_neg (by omega), List.replicate_zero, List.append_nil]
 | m + 1, i, z, c, hi, hz, hok, hc, hv => by
  have c1 : (i : Int) < (x.length : Int) := by omega
  have c0 : (0 : Int) ≤ (i : Int) := by omega
  have e3 : wrap64 ((i : Int) + 1) = ((i + 1 : Nat) : Int) := by rw [d64 (by omega) (by omega)]; omega
  have hlen : (z ++ List.replicate (m + 1) 0).length = x.length := by rw [List.length_append, List.length_replicate]; omega
  have hi2 : i + 1 + m = x.length := by omega
  have hset : ∀ d : Int, (z ++ List.replicate (m + 1) 0).set i d = z ++ [d] ++ List.replicate m 0 := fun d => by
   rw [List.replicate_succ, set_at _ _ _ _ hz]
   simp
  have hz2 : ∀ d : Int, (z ++ [d]).length = i + 1 := fun d => by rw [List.length_append, hz]; rfl
  have hok2 : ∀ d : Int, 0 ≤ d ∧ d < 4294967296 → dOk (z ++ [d]) := fun d hd => dOk_append.2 ⟨hok, dOk_cons.2 ⟨hd, fun d hd => by cases hd⟩⟩
  have hdg := rdigit y hy i
  obtain ⟨d, c2, e1, e2, hd, hc2, he⟩ := rsub_digit (getD_digit hx i) (getD_digit hy i) hc
  have hv2 : dv (z ++ [d]) = dv (x.take (i + 1)) - dv (y.take (i + 1)) + pB (i + 1) * c2 := by
   clear e1 e2
   rw [dv_snoc, hz, hv, dv_take_next x i, dv_take_next y i, he, show pB (i + 1) = 4294967296 * pB i from rfl]
   grind
  have ih := rsub_l hx hy hb hfin m (i + 1) (z ++ [d]) c2 hi2 (hz2 d) (hok2 d hd) hc2 hv2
  refine Ev.step (fun k => ?_) ih
  simp only [fluxionref01_Sub.l0, hdg, Option.bind_some, rd_nat, hlen, e1, e2, e3, Int.toNat_natCast, hset]
  rw [if_pos c1, if_pos c0, if_pos c1]
theorem rsub_ev {x y : List Int} (hx : dCan x) (hy : dCan y) (hb : x.length ≤ 100000) (hle : dv y ≤ dv x) : ∃ r, Ev (fun k => fluxionref01_Sub.f k x y) r ∧ dCan r ∧ dv r = dv x - dv y := by
 have hyl := dCan_short hy hx hle
 have b0 := dv_bound x hx.1
 have b1 := dv_bound y hy.1
 have hp := pB_pos x.length
 obtain ⟨r0, hr0, hr1⟩ : ∃ r0 : List Int, dCan r0 ∧ dv r0 = dv x - dv y := by
  obtain ⟨h1, h2⟩ := natL_spec (dv x - dv y).toNat (dv x - dv y).toNat (Nat.le_refl _)
  exact ⟨_, h1, by rw [h2]; omega⟩
 have h := rsub_l hx.1 hy.1 hb (r := r0) (fun z c hz hok hc hv => by
  rw [List.take_of_length_le hyl] at hv
  have bz := dv_bound z hok
  rw [hz] at bz
  have hc0 : c = 0 := by
   rcases hc with h | h
   ·exact h
   ·subst h
    rw [Int.mul_one] at hv
    omega
  subst hc0
  obtain ⟨s, hs, hs1, hs2⟩ := rshort_ev hok (by omega)
  rw [dCan_inj hr0 hs1 (by rw [hs2, hr1, hv]; simp)]
  exact hs) x.length 0 [] 0 (by omega) rfl (fun d hd => by cases hd) (.inl rfl) (by simp [dv])
 refine ⟨r0, Ev.congr (fun k => ?_) h, hr0, hr1⟩
 unfold fluxionref01_Sub.f
 rw [if_pos (by omega), Int.toNat_natCast, if_pos (by omega), List.nil_append]
 rfl
theorem rtwice_l {x : List Int} (hx : dOk x) (hb : x.length ≤ 100000) {r : List Int} (hfin : ∀ z, z.length = x.length + 1 → dOk z → dv z = 2 * dv x → Ev (fun k => fluxionref01_short.f k z) r) :
 ∀ (m i : Nat) (z : List Int) (c : Int), i + m = x.length → z.length = i → dOk z → (c = 0 ∨ c = 1) → dv z + pB i * c = 2 * dv (x.take i) →
  Ev (fun k => fluxionref01_twice.l0 k x c (z ++ List.replicate (m + 1) 0) (i : Int)) r
 | 0, i, z, c, hi, hz, hok, hc, hv => by
  have hset : (z ++ List.replicate (0 + 1) 0).set x.length c = z ++ [c] := set_at _ _ _ _ (by omega)
  have h := hfin (z ++ [c]) (by rw [List.length_append, hz]; simp; omega) (dOk_append.2 ⟨hok, dOk_cons.2 ⟨by omega, fun d hd => by cases hd⟩⟩) (by
   rw [dv_snoc, hz, hv, List.take_of_length_le (by omega)])
  refine Ev.step (f := fun k => (fluxionref01_short.f k (z ++ [c])).bind fun t => some t) (fun k => ?_) (Ev.bind h (Ev.now _))
  have hlen : (z ++ List.replicate (0 + 1) 0).length = x.length + 1 := by rw [List.length_append, List.length_replicate]; omega
  simp only [fluxionref01_twice.l0, hlen, Int.toNat_natCast, hset]
  rw [if_neg (by omega), if_pos (by omega), if_pos (by omega)]
 | m + 1, i, z, c, hi, hz, hok, hc, hv => by
  have hg := getD_digit hx i
  have e3 : wrap64 ((i : Int) + 1) = ((i + 1 : Nat) : Int) := by rw [d64 (by omega) (by omega)]; omega
  have eo := (or_u32 (i := 1) (a := (x.getD i 0 * 2) % 4294967296) (b := c) (by omega) (by omega) (by omega) (by omega)).1
  have hlen : (z ++ List.replicate (m + 1 + 1) 0).length = x.length + 1 := by rw [List.length_append, List.length_replicate]; omega
  have hset : (z ++ List.replicate (m + 1 + 1) 0).set i ((x.getD i 0 * 2) % 4294967296 + c) = z ++ [(x.getD i 0 * 2) % 4294967296 + c] ++ List.replicate (m + 1) 0 := by
   rw [List.replicate_succ, set_at _ _ _ _ hz]
   simp
  have hdg : (x.getD i 0 * 2) % 4294967296 = x.getD i 0 * 2 - 4294967296 * (x.getD i 0 / 2147483648) := by omega
  have ih := rtwice_l hx hb hfin m (i + 1) (z ++ [(x.getD i 0 * 2) % 4294967296 + c]) (x.getD i 0 / 2147483648) (by omega) (by rw [List.length_append, hz]; rfl) (dOk_append.2 ⟨hok, dOk_cons.2 ⟨by omega, fun d hd => by cases hd⟩⟩) (by omega) (by
   rw [dv_snoc, hz, dv_take_next x i, hdg, show pB (i + 1) = 4294967296 * pB i from rfl]
   generalize x.getD i 0 / 2147483648 = q at *
   grind)
  refine Ev.step (fun k => ?_) ih
  have c1 : (i : Int) < (x.length : Int) := by omega
  have c0 : (0 : Int) ≤ (i : Int) := by omega
  have c2 : (i : Int) < ((x.length + 1 : Nat) : Int) := by omega
  simp only [fluxionref01_twice.l0, rd_nat, hlen, eo, e3, Int.toNat_natCast, hset]
  rw [if_pos c1, if_pos c0, if_pos c2]
theorem rtwice_ev {x : List Int} (hx : dCan x) (hb : x.length ≤ 100000) : ∃ r, Ev (fun k => fluxionref01_twice.f k x 0) r ∧ dCan r ∧ dv r = 2 * dv x := by
 have b0 := dv_bound x hx.1
 obtain ⟨r0, hr0, hr1⟩ : ∃ r0 : List Int, dCan r0 ∧ dv r0 = 2 * dv x := by
  obtain ⟨h1, h2⟩ := natL_spec (2 * dv x).toNat (2 * dv x).toNat (Nat.le_refl _)
  exact ⟨_, h1, by rw [h2]; omega⟩
 have h := rtwice_l hx.1 hb (r := r0) (fun z hz hok hv => by
  obtain ⟨s, hs, hs1, hs2⟩ := rshort_ev hok (by omega)
  rw [dCan_inj hr0 hs1 (by rw [hs2, hr1, hv])]
  exact hs) x.length 0 [] 0 (by omega) rfl (fun d hd => by cases hd) (.inl rfl) (by simp [dv])
 refine ⟨r0, Ev.congr (fun k => ?_) h, hr0, hr1⟩
 have e1 : wrap64 ((x.length : Int) + 1) = ((x.length + 1 : Nat) : Int) := by rw [d64 (by omega) (by omega)]; omega
 unfold fluxionref01_twice.f
 rw [e1, if_pos (by omega), Int.toNat_natCast, if_pos (by omega), List.nil_append]
 rfl
end Go.Proofs.YtbkknoipgmlcmaaGreatDoor.P

