import Derived.Deep.CutBlock
import Derived.Deep.CutRange
import Derived.Test.YtbkknoipgmlcmaaGreatDoorQCM20
set_option linter.unusedVariables false
set_option linter.unusedSimpArgs false
set_option maxHeartbeats 8000000
set_option maxRecDepth 100000
namespace Go.Proofs.YtbkknoipgmlcmaaGreatDoor.P
open Go.RowKit Go.Proofs.YtbkknoipgmlcmaaGreatDoorW.PrintWords Go.Proofs.YtbkknoipgmlcmaaGreatDoorW.PrintLast Go.Proofs.YtbkknoipgmlcmaaGreatDoorW.PrintMore
open Go.Proofs.FX
attribute [local go_sem] cell_twice le_add_cast
theorem dig_facts {a2 a1 two : Int} (b1 : 0 ≤ a2 ∧ a2 < 4294967296) (b2 : 0 ≤ a1 ∧ a1 < 4294967296) (ht : a2 * 4294967296 + a1 = two) :
 IntKind.u64.wrap a2 = a2 ∧ IntKind.u64.wrap (a2 * 4294967296) = a2 * 4294967296 ∧ bits .or .u64 (a2 * 4294967296) a1 = two ∧ IntKind.u64.wrap a1 = a1 :=
 ⟨u64s b1.1 (by omega), u64s (by omega) (by omega), by rw [or_u64 b1 b2]; exact ht, u64s b2.1 (by omega)⟩
theorem quo_facts {two v1 : Int} (h : 0 ≤ two ∧ two < 18446744073709551616) (hv : 1 ≤ v1 ∧ v1 < 4294967296) :
 IntKind.u64.wrap v1 = v1 ∧ (v1 == 0) = false ∧ (v1 = 0) = False ∧ Int.tdiv two v1 = two / v1 ∧ Int.tmod two v1 = two % v1 ∧ IntKind.u64.wrap (two / v1) = two / v1 ∧ IntKind.u64.wrap (two % v1) = two % v1 := by
 have h1 : two / v1 ≤ two := Int.ediv_le_self _ h.1
 have h2 : 0 ≤ two / v1 := Int.ediv_nonneg h.1 (by omega)
 have h3 := Int.emod_nonneg two (show v1 ≠ 0 by omega)
 have h4 := Int.emod_lt_of_pos two (show 0 < v1 by omega)
 exact ⟨u64s (by omega) (by omega), by simp; omega, eq_false (by omega), Int.tdiv_eq_ediv_of_nonneg h.1, Int.tmod_eq_emod_of_nonneg h.1, u64s h2 (by omega), u64s h3 (by omega)⟩
theorem top_facts {m S : Nat} (hS : S = m + 2) (hb : S ≤ 100000) : wrap64 ((S : Int) - 1) = (m : Int) + 1 ∧ (0 ≤ (m : Int) + 1) = True ∧ ((m : Int) + 1 < (S : Int)) = True ∧ ((m : Int) + 1).toNat = m + 1 := by
 subst hS
 refine ⟨?_, eq_true (by omega), eq_true (by omega), by omega⟩
 rw [d64 (by omega) (by omega)]; omega
theorem sec_facts {m S : Nat} (hS : S = m + 2) (hb : S ≤ 100000) : wrap64 ((S : Int) - 2) = (m : Int) ∧ (0 ≤ (m : Int)) = True ∧ ((m : Int) < (S : Int)) = True ∧ (m < S) = True := by
 subst hS
 refine ⟨?_, eq_true (by omega), eq_true (by omega), eq_true (by omega)⟩
 rw [d64 (by omega) (by omega)]; omega
theorem idx2_facts {j m S N : Nat} (hS : S = m + 2) (hN : j + m + 3 ≤ N) (hb : N ≤ 100000) :
 wrap64 ((j : Int) + (S : Int)) = (j : Int) + (m : Int) + 2 ∧ wrap64 ((j : Int) + (m : Int) + 2 - 2) = (j : Int) + (m : Int) ∧ (0 ≤ (j : Int) + (m : Int)) = True ∧ ((j : Int) + (m : Int) < (N : Int)) = True ∧ ((j : Int) + (m : Int)).toNat = j + m ∧ wrap64 ((j : Int) + (m : Int)) = (j : Int) + (m : Int) := by
 subst hS
 refine ⟨?_, ?_, eq_true (by omega), eq_true (by omega), by omega, d64 (by omega) (by omega)⟩
 ·rw [d64 (by omega) (by omega)]; omega
 ·rw [d64 (by omega) (by omega)]; omega
theorem idx_facts {j m S N : Nat} (hS : S = m + 2) (hN : j + m + 3 ≤ N) (hb : N ≤ 100000) :
 wrap64 ((j : Int) + (S : Int)) = (j : Int) + (m : Int) + 2 ∧ wrap64 ((j : Int) + (m : Int) + 2 - 1) = (j : Int) + (m : Int) + 1 ∧ (0 ≤ (j : Int) + (m : Int) + 2) = True ∧ ((j : Int) + (m : Int) + 2 < (N : Int)) = True ∧
 ((j : Int) + (m : Int) + 2).toNat = j + (m + 2) ∧ (0 ≤ (j : Int) + (m : Int) + 1) = True ∧ ((j : Int) + (m : Int) + 1 < (N : Int)) = True ∧ ((j : Int) + (m : Int) + 1).toNat = j + (m + 1) ∧ decide (0 ≤ (j : Int)) = true := by
 subst hS
 refine ⟨?_, ?_, eq_true (by omega), eq_true (by omega), by omega, eq_true (by omega), eq_true (by omega), by omega, dT (by omega)⟩
 ·rw [d64 (by omega) (by omega)]; omega
 ·rw [d64 (by omega) (by omega)]; omega
theorem sl_facts {j m N cap : Nat} (h : j + m + 3 ≤ N) (hb : N ≤ 100000) (hc : N ≤ cap) :
 wrap64 ((j : Int) + (m : Int) + 2 + 1) = (j : Int) + (m : Int) + 3 ∧ wrap64 ((j : Int) + (m : Int) + 3) = (j : Int) + (m : Int) + 3 ∧ (0 ≤ (j : Int)) = True ∧ ((j : Int) ≤ (j : Int) + (m : Int) + 3) = True ∧ ((j : Int) + (m : Int) + 3 ≤ (cap : Int)) = True ∧ ((j : Int) + (m : Int) + 3 - (j : Int)).toNat = m + 3 ∧ j + m + 3 - j = m + 3 ∧ (cap = j) = False := by
 refine ⟨?_, ?_, eq_true (by omega), eq_true (by omega), eq_true (by omega), by omega, by omega, eq_false (by omega)⟩
 ·rw [d64 (by omega) (by omega)]; omega
 ·rw [d64 (by omega) (by omega)]
theorem row_tight {W : World} {base g n cap : Nat} {xs : List Int} (h : RowN W base g n cap xs) {g3 : Nat} (hne : g ≠ g3) : Kd.R (Kd.int .u32) 145 W base (fun k => k ≠ g3) (.slice (some ⟨g, 0, none⟩) n cap) xs :=
 Kd.R_mono (Kd.R_tight rfl h) (fun k hk => by
  have : g = k := by simpa [Value.ownBlock] using hk.symm
  omega)
theorem row_far {W : World} {base g n cap : Nat} {xs : List Int} (h : RowN W base g n cap xs) {g3 : Nat} (hne : g ≠ g3) (i : Nat) (u : Value) : RowN (W.setCell ⟨g3, i, none⟩ u) base g n cap xs :=
 Kd.R_mono (Kd.R_far (p := ⟨g3, i, none⟩) (row_tight h hne) (fun _ hk => hk) u) (fun _ _ => trivial)
theorem row_keep {W W' : World} {base g n cap : Nat} {xs : List Int} (h : RowN W base g n cap xs) {g3 : Nat} (hne : g ≠ g3) (hk : KeepBut W W' g3 none) : RowN W' base g n cap xs :=
 Kd.R_mono (Kd.R_keep (row_tight h hne) hk (fun _ hk => hk)) (fun _ _ => trivial)
theorem putL_win {u w : List Int} {j n : Nat} (hj : j ≤ u.length) (hw : w.length = n) : ((putL u j n w).drop j).take n = w := by
 rw [putL_drop hj, List.take_append_of_le_length (by omega), List.take_of_length_le (by omega)]
theorem putL_putL {u w w2 : List Int} {j n : Nat} (hj : j + n ≤ u.length) (hw : w.length = n) : putL (putL u j n w) j n w2 = putL u j n w2 := by
 have h1 : (putL u j n w).take j = u.take j := by
  unfold putL
  rw [List.take_append_of_le_length (by rw [List.length_take]; omega), List.take_take, Nat.min_self]
 have h2 : (putL u j n w).drop (j + n) = u.drop (j + n) := by
  rw [← List.drop_drop, putL_drop (by omega), List.drop_append_of_le_length (by omega), List.drop_of_length_le (by omega), List.nil_append]
 show (putL u j n w).take j ++ (w2 ++ (putL u j n w).drop (j + n)) = _
 rw [h1, h2]
 rfl
theorem step_next {v L Wn : List Int} {j m : Nat} (hvl : v.length = m + 2) (hw : (L.drop j).take (m + 3) = Wn) : divL v (j + 1) L = divL v j (putL L j (m + 3) (stepL v Wn).1) := by
 show divL v j (putL L j (v.length + 1) (stepL v ((L.drop j).take (v.length + 1))).1) = _
 rw [hvl, hw]
theorem row_pref {W : World} {base gt TL ct K : Nat} {t v : List Int} (h : RowN W base gt TL ct t) (htl : t.length = TL) (hK : t.take K = v) (hKle : K ≤ TL) : Kd.C (Kd.int .u32) W (some ⟨gt, 0, none⟩) v.length v := by
 have h2 := (Kd.R_reads' h).2.2
 have h3 := Kd.C_take h2 (m := K) (by omega)
 rw [hK] at h3
 exact h3
theorem take_row {g gt j m N S TL K capu ct : Nat} {L v t Wn : List Int} {Q : Int} {w wr : World} (HL : RowN wr w.heap.size g N capu L) (HV6 : RowN wr w.heap.size gt TL ct t) (HB : Below w.heap.size w wr) (hne : g ≠ gt) (hLN : L.length = N) (htl : t.length = TL)
 (hK : t.take K = v) (hKle : K ≤ TL) (hvl : v.length = S) (hx : dOk L) (hv : dOk v) (hq : 0 ≤ Q ∧ Q < 4294967296) (hjm : j + (m + 3) ≤ N) (hb : N ≤ 100000) (hw : (L.drop j).take (m + 3) = Wn) (hct : S ≤ TL) :
 Calls Tryz.prog 248 #[.slice (some ⟨g, j, none⟩) (m + 3) (capu - j), .slice (some ⟨gt, 0, none⟩) S ct, .int .u64 Q] wr fun e w' => e = .returned (.bool ((tkL Q Wn v 0 0).2.2 == 0)) ∧ RowN w' w.heap.size g N capu (putL L j (m + 3) (tkL Q Wn v 0 0).1) ∧ Below w.heap.size w w' ∧ KeepBut wr w' g none := by
 subst hLN hvl hw
 have hc := (Kd.R_reads' HV6).2.1
 exact take_calls g j (m + 3) (capu - j) capu ct L v Q (some ⟨gt, 0, none⟩) w wr HB HL hjm hx hv hq (by omega) (by omega) (fun W hk => row_pref (row_keep HV6 (Ne.symm hne) hk) htl hK hKle) (by omega)
theorem give_row {g gt j m N S TL K capu ct : Nat} {L v t T : List Int} {w wr : World} (HL : RowN wr w.heap.size g N capu (putL L j (m + 3) T)) (HV6 : RowN wr w.heap.size gt TL ct t) (HB : Below w.heap.size w wr) (hne : g ≠ gt) (hLN : L.length = N) (htl : t.length = TL)
 (hK : t.take K = v) (hKle : K ≤ TL) (hvl : v.length = S) (hx : dOk L) (hT : dOk T) (hTl : T.length = m + 3) (hv : dOk v) (hjm : j + (m + 3) ≤ N) (hb : N ≤ 100000) (hct : S ≤ TL) :
 Calls Tryz.prog 249 #[.slice (some ⟨g, j, none⟩) (m + 3) (capu - j), .slice (some ⟨gt, 0, none⟩) S ct] wr fun e w' => e = .returned (.tuple #[]) ∧ RowN w' w.heap.size g N capu (putL L j (m + 3) (gvL T v 0).1) ∧ Below w.heap.size w w' ∧ KeepBut wr w' g none := by
 subst hLN hvl
 have hc := (Kd.R_reads' HV6).2.1
 have hl := putL_len (u := L) (w := T) (j := j) (n := m + 3) hjm hTl
 rw [← hl] at HL
 have h := give_calls g j (m + 3) (capu - j) capu ct (putL L j (m + 3) T) v (some ⟨gt, 0, none⟩) w wr HB HL (by omega) (putL_ok hx hT) hv (by omega) (by omega) (fun W hk => row_pref (row_keep HV6 (Ne.symm hne) hk) htl hK hKle) (by omega)
 rw [putL_win (by omega) hTl, putL_putL hjm hTl, hl] at h
 exact h
theorem guess_left {k : Nat} (h : 1 ≤ k) (r v : Int) : r + (k : Int) * v = r + v + ((k - 1 : Nat) : Int) * v := by
 have h1 : (k : Int) = ((k - 1 : Nat) : Int) + 1 := by omega
 rw [h1]
 grind
theorem div_more (A : Option Addr) (b : Addr) (c d m : Nat) (x y : List Int) (w : World) (hx : dCan x) (hy : dCan y) (hyl : y.length = m + 2) (bx : x.length ≤ 1000) (hA : Kd.C (Kd.int .u32) w A x.length x) (hc : x.length ≤ c) (hB : Kd.C (Kd.int .u32) w (some b) y.length y) (hd : y.length ≤ d) (hle : dv y ≤ dv x) :
 Calls Tryz.prog 235 #[.slice A x.length c, .slice (some b) y.length d] w (DivPost w x y) := by
 have hxy : y.length ≤ x.length := by
  rcases Nat.lt_or_ge x.length y.length with h | h
  ·have h1 := (dv_bound x hx.1).2
   have h2 := (dCan_top hy (n := m + 1) (by omega)).1
   have := pB_le (show x.length ≤ m + 1 by omega)
   omega
  ·exact h
 obtain ⟨r, hr, hi⟩ := compare_ev hx hy (by omega) (by omega)
 obtain ⟨k, hk⟩ := hr.rounds
 have k0 : decide (r < 0) = false := dF (by omega)
 have HC : Aside0 (Calls Tryz.prog 245 #[.slice A x.length c, .slice (some b) y.length d] w fun e w' => e = .returned (.int .i64 r) ∧ Drawn0 w w') := ⟨nat_compare.calls k A c x (some b) d y r w hA hc hB hd hk⟩
 have hyt := (dCan_top hy (n := m + 1) (by omega)).2
 have hyd := getD_digit hy.1 (m + 1)
 obtain ⟨n, hn, hlz, hn1, hn2⟩ := lz_at (a := y.getD (m + 1) 0) (by omega) hyd.2
 obtain ⟨ee, ff, he, hf, hef, he1, hf2⟩ := two_pow hn
 rw [he] at hn1 hn2
 have HLZ := aS (fun W => bits_LeadingZeros32.calls (y.getD (m + 1) 0) (n : Int) W hlz)
 obtain ⟨u, hu, huo, hul, huv⟩ := left_at hx.1 hn (by omega)
 obtain ⟨t, ht, hto, htl, htv⟩ := left_at hy.1 hn (by omega)
 rw [he] at huv htv
 obtain ⟨hvc, hvv⟩ := trimN_dv hto t.length (Nat.le_refl _)
 rw [List.take_of_length_le (Nat.le_refl _)] at hvv
 have hKle := trimN_le t t.length
 have hvl : (t.take (trimN t t.length)).length = trimN t t.length := by rw [List.length_take]; omega
 obtain ⟨K, hK⟩ : ∃ K, trimN t t.length = K := ⟨_, rfl⟩
 rw [hK] at hvc hvv hKle hvl
 obtain ⟨v, hvt⟩ : ∃ v, t.take K = v := ⟨_, rfl⟩
 rw [hvt] at hvc hvv hvl
 obtain ⟨k1, hk1⟩ := hu.rounds
 obtain ⟨k2, hk2⟩ := ht.rounds
 have hmv := moved hx hy hyl hef he1 hf2 hn1 hn2 huo hul huv hvc (by rw [hvv, htv]) hxy
 obtain ⟨kq, hdv, hd0, hd1, hdo, hdl⟩ := divL_spec hvc.1 hmv.1 hmv.2.1 (x.length - (m + 1)) u huo hmv.2.2.2 hmv.2.2.1
 obtain ⟨s, hs, hsc, hsv, hsl⟩ := trim_ev u.length (divL v (x.length - (m + 1)) u) hdl hdo (by omega)
 obtain ⟨z, hz, hzc, hzv⟩ := right_at hsc.1 hn (by omega)
 obtain ⟨k4, hk4⟩ := hs.rounds
 obtain ⟨k5, hk5⟩ := hz.rounds
 have HFIN : Aside0 (dCan z ∧ dv z = dv x % dv y) := ⟨hzc, by rw [hzv, hsv, he]; exact moved_back (Y := dv y) (k := kq) (E := 0) he1 (by rw [hdv, huv, hvv, htv]) hd0 (by rw [hvv, htv] at hd1; exact hd1)⟩
 have HL1 := aS (fun W hb => nat_left.calls k1 A c x (n : Int) u W (Kd.C_below hA hb) hc hk1)
 have HL2 := aS (fun W hb => nat_left.calls k2 (some b) d y (n : Int) t W (Kd.C_below hB hb) hd hk2)
 have HKK := aS (And.intro hK (And.intro hvt (And.intro hvl (And.intro hto hKle))))
 have HK4 := aS hk4
 have HK5 := aS hk5
 have HV := aS (show dCan v ∧ 2147483648 ≤ v.getD (m + 1) 0 from ⟨hvc, hmv.2.1⟩)
 have HUO := aS huo
 have HUV := aS hmv.2.2.1
 obtain ⟨ad, hea, hb⟩ := (Kd.reads_of_C (enc := Value.int .u32) (d := (0 : Int)) (h1 := fun _ => rfl) hB).2.2 (by omega)
 injection hea with hea
 subst hea
 obtain ⟨bb, bo, bl⟩ := b
 have hvl2 := hmv.1
 have HT := aS (show m + 2 ≤ x.length ∧ x.length ≤ 1000 ∧ y.length = m + 2 ∧ u.length = x.length + 1 ∧ v.length = m + 2 ∧ t.length = m + 3 ∧ n < 32 from ⟨by omega, bx, hyl, hul, hmv.1, by omega, hn⟩)
 have htop := hb (m + 1) (by omega)
 have htop2 : w.cell? ⟨bb, bo + (m + 1), none⟩ = some (.int .u32 (y.getD (m + 1) 0)) := htop
 have HTop := aS htop2
 clear hA hB hc hd hle hi hr hk hb htop htop2 hyt hyd hlz hn1 hn2 he hf hef he1 hf2 hu huo hul huv ht hto htl htv hvc hvv hvl hk1 hk2 hK hvt hKle hmv hdv hd0 hd1 hdo hdl hs hsc hsv hsl hz hzc hzv hk4 hk5 hxy hx hy bx hn hvl2
 clear hyl
 have hl0 := HT.out.2.2.1
 have e1 : ((y.length : Int) == 1) = false := by simp; omega
 have e2 : (y.length == 1) = false := by simp; omega
 have e3 : wrap64 ((y.length : Int) - 1) = ((m + 1 : Nat) : Int) := by have hxl := HT.out.2.1; have hml := HT.out.1; rw [hl0, d64 (by omega) (by omega)]; omega
 have e4 : ((m : Int) + 1 < (y.length : Int)) = True := eq_true (by omega)
 have e6 : (0 ≤ (m : Int) + 1) = True := eq_true (by omega)
 have e5 : (m + 1 < y.length) = True := eq_true (by omega)
 clear hl0
 go_enter Tryz.func235, Tryz.ntmps235
 go_wp2_with fail
 (with_reducible refine HC.out.mono ?_)
 rintro e w1 ⟨rfl, ⟨nd, rfl⟩⟩
 have htc : (w.drewN nd).cell? ⟨bb, bo + (m + 1), none⟩ = some (.int .u32 (y.getD (m + 1) 0)) := HTop.out
 generalize y.getD (m + 1) 0 = yt at *
 go_wp2_with fail
 (with_reducible refine (HLZ.out _).mono ?_)
 rintro e w2 ⟨rfl, ⟨nd2, rfl⟩⟩
 clear htc
 have HBw := aS (pw_below_drewN (pw_below_drewN (Below.refl w.heap.size w) nd) nd2)
 generalize (w.drewN nd).drewN nd2 = w2 at HBw ⊢
 go_wp2_with fail
 (with_reducible refine (HL1.out _ HBw.out).mono ?_)
 rintro e w3 ⟨vu, rfl, hR, hb⟩
 obtain ⟨g, capu, hvu, hg2, hg3, -⟩ := Kd.R_form hR (by have := HT.out; omega)
 subst hvu
 have HU : Aside0 (RowN w3 w.heap.size g u.length capu u) := ⟨Kd.R_lower hR HBw.out.size⟩
 have HG := aS hg3
 have HBu := aS (bs_ HBw.out hb)
 clear hR hb hg2 hg3
 go_wp2_with fail
 (with_reducible refine (HL2.out _ HBu.out).mono ?_)
 rintro e w4 ⟨vt, rfl, hR, hb⟩
 obtain ⟨gt, ct, hvt_, ht2, ht3, -⟩ := Kd.R_form hR (by have := HT.out; omega)
 subst hvt_
 have HTR : Aside0 (RowN w4 w.heap.size gt t.length ct t) := ⟨Kd.R_lower hR HBu.out.size⟩
 have HGT := aS (show g ≠ gt by have := HG.out; omega)
 replace HU := aS (Kd.R_below HU.out hb)
 have HBv := aS (bs_ HBu.out hb)
 clear hR hb ht2 ht3
 go_wp2_with fail
 (with_reducible refine (trim_same gt ct t w w4 HTR.out (by have := HT.out; omega)).mono ?_)
 rintro e w5_ ⟨rfl, ⟨nd5, rfl⟩⟩
 replace HU := aS (Kd.R_drewN HU.out nd5)
 replace HTR := aS (Kd.R_drewN HTR.out nd5)
 replace HBv := aS (pw_below_drewN HBv.out nd5)
 generalize w4.drewN nd5 = w5 at HU HTR HBv ⊢
 rw [HKK.out.1, ← HKK.out.2.2.1]
 have hj0 := HT.out
 have e7 : wrap64 ((u.length : Int) - (v.length : Int)) = ((x.length - (m + 1) : Nat) : Int) := by rw [d64 (by omega) (by omega)]; omega
 have HJ0 := aS (show 1 ≤ x.length - (m + 1) ∧ x.length - (m + 1) + (m + 2) = u.length from by omega)
 have HJ1 := aS (show (((x.length - (m + 1) : Nat) : Int)).toNat * 4 ≤ 281474976710656 from by rw [Int.toNat_natCast]; omega)
 have HDV : Aside0 (divL v (x.length - (m + 1)) u = divL v (x.length - (m + 1)) u) := ⟨rfl⟩
 clear hj0
 generalize hJ : x.length - (m + 1) = J at *
 clear hJ
 generalize hN : u.length = N at *
 generalize hS : v.length = S at *
 generalize hTL : t.length = TL at *
 have HNL := aS hN
 have HSL := aS hS
 have HTL0 := aS hTL
 clear hN hS hTL
 go_wp2_with ((with_reducible refine gate_dst (N := 58) rfl ?_); refine Kd.R_make (Kd.int .u32) w.heap.size 145 rfl (N := 58) rfl 59 _ _ rfl (wrap64 ((N : Int) - (S : Int))) rfl rfl Tryz.underlying59 (.int .u32 0) 4 info145 rfl (by decide) (by omega) 0 (ok := fun _ => True) (okp := fun _ => True) rfl (fun _ hk => hk) trivial (by rw [e7]; exact Int.natCast_nonneg J) (by rw [e7]; exact HJ1.out) HBv.out HBv.out.size ?_; intro v6 w6 ho hb hg hnew; rw [e7] at ho; obtain ⟨g3, capo, hvo, ho2, ho3, -⟩ := Kd.R_form ho (by rw [List.length_replicate, Int.toNat_natCast]; exact HJ0.out.1); rw [List.length_replicate, Int.toNat_natCast] at hvo; subst hvo; rw [Int.toNat_natCast] at ho; have HO : Aside0 (RowN w6 w.heap.size g3 J capo (List.replicate J 0)) := ⟨ho⟩; have hg53 : w5.heap.size ≤ g3 := (by obtain ⟨b_, hb_, hb2_⟩ := hnew; have : g3 = b_ := (by simpa [Value.ownBlock] using hb_); omega); have hgu : g < w5.heap.size := Kd.R_lt HU.out g rfl; have hgt : gt < w5.heap.size := Kd.R_lt HTR.out gt rfl; have HNE := aS (show g ≠ g3 ∧ gt ≠ g3 from ⟨by omega, by omega⟩); have HV6 : Aside0 (RowN w6 w.heap.size gt TL ct t) := ⟨Kd.R_grown HTR.out hg (fun _ _ => by simp)⟩; have HU6 : Aside0 (RowN w6 w.heap.size g N capu u) := ⟨Kd.R_grown HU.out hg (fun _ _ => by simp)⟩; have HB6 := aS hb; clear ho hb hg hnew hg53 hgu hgt ho2 ho3 HU HTR HBv HJ1)
 have e8 : wrap64 ((J : Int) - 1) = (J : Int) - 1 := d64 (by have := HJ0.out; omega) (by have := HJ0.out; have := HT.out; omega)
 go_wp2
 clear e1 e2 e3 e4 e5 e6 k0 HC HLZ HL1 HL2 HTop
 go_loopg [13] (J + 1) (fun kq v13 w' => ∃ (i : Int) (j : Nat) (L O : List Int), v13 = .int .i64 i ∧ Aside0 (i = (j : Int) - 1 ∧ kq = j + 1 ∧ j ≤ J ∧ dOk L ∧ L.length = N ∧ dOk O ∧ O.length = J) ∧ Aside0 (divL v j L = divL v J u) ∧ Aside0 (dv (L.drop j) < dv v) ∧ Aside0 (RowN w' w.heap.size g N capu L) ∧ Aside0 (RowN w' w.heap.size g3 J capo O) ∧
  Aside0 (RowN w' w.heap.size gt TL ct t) ∧ Aside0 (Below w.heap.size w w'))
 case atStart => exact ⟨_, J, u, List.replicate J 0, rfl, ⟨e8, rfl, Nat.le_refl _, HUO.out, HNL.out, (fun d hd => by rw [List.eq_of_mem_replicate hd]; decide), List.length_replicate ..⟩, ⟨rfl⟩, HUV, HU6, HO, HV6, HB6⟩
 case round =>
  clear e8 HU6 HO HV6 HB6 HUV e7
  obtain ⟨i, j, L, O, rfl, HA, HD, HLT, HL, HO, HV6, HB⟩ := hrel
  cases j with
  | zero =>
   have k1 : decide (0 ≤ i) = false := dF (by have := HA.out; omega)
   have h1 := HA.out
   have hoJ : O.length = J := h1.2.2.2.2.2.2
   have hLN : L.length = N := h1.2.2.2.2.1
   obtain ⟨so, hso, -, -, -⟩ := trim_ev O.length O rfl h1.2.2.2.2.2.1 (by have := HJ0.out; have := HT.out; omega)
   obtain ⟨k6, hk6⟩ := hso.rounds
   have HTO : Aside0 (Calls Tryz.prog 220 #[.slice (some ⟨g3, 0, none⟩) J capo] wr fun e w' => ∃ v0_ : Value, e = .returned v0_ ∧ Below wr.heap.size wr w') := ⟨by
    have h2 := nat_trim.calls k6 (fun _ => True) (some ⟨g3, 0, none⟩) capo O so wr (Kd.R_V (by rw [hoJ]; exact HO.out)) hk6
    rw [hoJ] at h2
    exact h2.mono (fun e w' ⟨v0, h3, _, h5⟩ => ⟨v0, h3, h5⟩)⟩
   have hLs : L = divL v J u := HD.out
   have HTL : Aside0 (∀ W, Below wr.heap.size wr W → Calls Tryz.prog 220 #[.slice (some ⟨g, 0, none⟩) N capu] W fun e w' => ∃ (A2 : Option Addr) (c2 : Nat), e = .returned (.slice A2 s.length c2) ∧ s.length ≤ c2 ∧ Kd.C (Kd.int .u32) w' A2 s.length s ∧ Below W.heap.size W w') := ⟨fun W hb => by
    have h2 := nat_trim.calls k4 (fun _ => True) (some ⟨g, 0, none⟩) capu L s W (Kd.R_V (by rw [hLN]; exact Kd.R_below HL.out hb)) (by rw [hLs]; exact HK4.out)
    rw [hLN] at h2
    refine h2.mono ?_
    rintro e w' ⟨v0, rfl, h4, h5⟩
    obtain ⟨A2, c2, rfl⟩ := Kd.V_slice h4
    exact ⟨A2, c2, rfl, (Kd.V_reads' h4).2.1, (Kd.V_reads' h4).2.2, h5⟩⟩
   clear h1 hoJ hLN hso hk6 hLs
   go_wp2_with fail
   (with_reducible refine HTO.out.mono ?_)
   rintro e wa ⟨va, rfl, hb⟩
   have HBa := aS hb
   clear hb
   go_wp2_with fail
   (with_reducible refine (HTL.out _ HBa.out).mono ?_)
   rintro e wb ⟨A2, c2, rfl, hc2, hC2, hb⟩
   have HC2 := aS hC2
   have HL2 := aS hc2
   have HBb := aS (bs_ HBa.out hb)
   clear hb hc2 hC2
   go_wp2_with fail
   (with_reducible refine (nat_right.calls k5 A2 c2 s (n : Int) z wb HC2.out HL2.out HK5.out).mono ?_)
   rintro e wc ⟨vz, rfl, hV, hb⟩
   have HZ := aS hV
   have HBc := aS (bs_ HB.out (bs_ HBb.out hb))
   clear hV hb
   obtain ⟨A3, c3, rfl⟩ := Kd.V_slice HZ.out
   go_wp2
   exact bodyPost_ret (v := .tuple #[va, .slice A3 z.length c3]) (by simp [results, Tryz.results235, go_sem]) rfl ⟨_, A3, c3, z, rfl, (Kd.V_reads' HZ.out).2.2, (Kd.V_reads' HZ.out).2.1, HFIN.out.1, HFIN.out.2, HBc.out⟩
  | succ j =>
   have h1 := HA.out
   have ht := HT.out
   obtain rfl : i = (j : Int) := by omega
   have hvl : v.length = m + 2 := by rw [HSL.out]; exact ht.2.2.2.2.1
   obtain ⟨q1, q2, q3, q4⟩ := win_at HV.out.1.1 hvl HV.out.2 h1.2.2.2.1 (by have := HJ0.out; omega) HLT.out
   obtain ⟨p1, p2, p3, p4, p5⟩ := guess_at HV.out.1.1 q2 hvl q1 HV.out.2 q3
   have HW := aS (And.intro q1 (And.intro q2 q4))
   have hj0 := HJ0.out
   have wg : ∀ k, k < m + 3 → ((L.drop j).take (m + 3)).getD k 0 = L.getD (j + k) 0 := fun k hk => by
    rw [List.getD_eq_getElem?_getD, List.getD_eq_getElem?_getD, List.getElem?_take_of_lt hk, List.getElem?_drop]
   have g1 := wg (m + 2) (by omega)
   have g2 := wg (m + 1) (by omega)
   have g3_ := wg m (by omega)
   have b1 := getD_digit q2 (m + 2)
   have b2 := getD_digit q2 (m + 1)
   have b3 := getD_digit q2 m
   have b4 := getD_digit HV.out.1.1 (m + 1)
   have b5 := getD_digit HV.out.1.1 m
   have r1 := Kd.R_celln (0 : Int) HL.out ((j + (m + 2) : Nat) : Int) (by omega) (by omega)
   have r2 := Kd.R_celln (0 : Int) HL.out ((j + (m + 1) : Nat) : Int) (by omega) (by omega)
   have r3 := Kd.R_celln (0 : Int) HL.out ((j + m : Nat) : Int) (by omega) (by omega)
   rw [Int.toNat_natCast] at r1 r2 r3
   have R1 : wr.cell? ⟨g, j + (m + 2), none⟩ = some (.int .u32 (L.getD (j + (m + 2)) 0)) := r1.1
   have R2 : wr.cell? ⟨g, j + (m + 1), none⟩ = some (.int .u32 (L.getD (j + (m + 1)) 0)) := r2.1
   have R3 : wr.cell? ⟨g, j + m, none⟩ = some (.int .u32 (L.getD (j + m) 0)) := r3.1
   rw [← g1] at R1
   rw [← g2] at R2
   rw [← g3_] at R3
   have hkk := HKK.out
   have htl0 := HTL0.out
   have vg : ∀ k, k < m + 2 → t.getD k 0 = v.getD k 0 := fun k hk => by
    rw [← hkk.2.1, List.getD_eq_getElem?_getD, List.getD_eq_getElem?_getD, List.getElem?_take_of_lt (by omega)]
   have r4 := (Kd.R_celln (0 : Int) HV6.out ((m + 1 : Nat) : Int) (by omega) (by omega)).1
   have r5 := (Kd.R_celln (0 : Int) HV6.out ((m : Nat) : Int) (by omega) (by omega)).1
   rw [Int.toNat_natCast] at r4 r5
   have R4 : wr.cell? ⟨gt, m + 1, none⟩ = some (.int .u32 (t.getD (m + 1) 0)) := r4
   have R5 : wr.cell? ⟨gt, m, none⟩ = some (.int .u32 (t.getD m 0)) := r5
   rw [vg (m + 1) (by omega)] at R4
   rw [vg m (by omega)] at R5
   generalize hWn : (L.drop j).take (m + 3) = Wn at q1 q2 q3 q4 p1 p2 p3 p4 p5 R1 R2 R3 b1 b2 b3
   obtain ⟨a2, ha2⟩ : ∃ a, Wn.getD (m + 2) 0 = a := ⟨_, rfl⟩
   obtain ⟨a1, ha1⟩ : ∃ a, Wn.getD (m + 1) 0 = a := ⟨_, rfl⟩
   obtain ⟨a0, ha0⟩ : ∃ a, Wn.getD m 0 = a := ⟨_, rfl⟩
   obtain ⟨v1, hv1⟩ : ∃ a, v.getD (m + 1) 0 = a := ⟨_, rfl⟩
   obtain ⟨v0, hv0⟩ : ∃ a, v.getD m 0 = a := ⟨_, rfl⟩
   obtain ⟨two, htwo⟩ : ∃ a, a2 * 4294967296 + a1 = a := ⟨_, rfl⟩
   obtain ⟨Q, hQ⟩ : ∃ a, guessL v1 v0 a0 3 (two / v1) (two % v1) = a := ⟨_, rfl⟩
   have HST := aS (step_at hvl ha2 ha1 ha0 hv1 hv0 htwo hQ)
   have HWN := aS hWn
   have hv1b := HV.out.2
   simp only [ha2, ha1, ha0, hv1, hv0, htwo, hQ] at R1 R2 R3 R4 R5 b1 b2 b3 b4 b5 p1 p2 p3 p4 p5 hv1b
   have HGS := aS (show 0 ≤ Q ∧ Q < 4294967296 ∧ two / v1 ≤ 4294967297 ∧ 0 ≤ two ∧ two < 18446744073709551616 from ⟨p1, p2, p3, p4, p5⟩)
   have HB0 := aS (And.intro b3 (And.intro b4 (And.intro b5 hv1b)))
   have HQ := aS hQ
   obtain ⟨f1, f2, f3, f4⟩ := dig_facts b1 b2 htwo
   obtain ⟨f5, f6, f7, f8, f9, f10, f11⟩ := quo_facts (two := two) (v1 := v1) ⟨p4, p5⟩ (show 1 ≤ v1 ∧ v1 < 4294967296 from ⟨by omega, b4.2⟩)
   obtain ⟨l1, l2, l3, l4⟩ := top_facts (m := m) (S := S) (by omega) (by omega)
   obtain ⟨i1, i2, i3, i4, i5, i6, i7, i8, k1⟩ := idx_facts (j := j) (m := m) (S := S) (N := N) (by omega) (by omega) (by omega)
   clear hkk htl0 vg r4 r5
   clear hWn ha2 ha1 ha0 hv1 hv0 htwo hQ hv1b b1 b2 b3 b4 b5
   clear r1 r2 r3 wg g1 g2 g3_ q1 q2 q3 q4 p1 p2 p3 p4 p5 h1 ht hvl hj0
   go_upto_region 13 with (fail)
   go_quiet (fail)
   go_upto_region 14 with (fail)
   go_quiet (fail)
   go_upto_block 2 with (fail)
   simp only [i1, l1]
   go_cut [15] from 62 to 161 (fun v15 wc => v15 = .int .u64 Q ∧ Drawn0 wr wc)
   case first =>
    clear i1 i2 i3 i4 i5 i6 i7 i8 f1 f2 f3 f4 f6 f7 f8 f9 f10 f11 R1 R2 k1
    go_wp2_with (fail)
    go_loopg [15, 16] 4 (fun kq v15 v16 w' => ∃ (q r : Int) (k : Nat), v15 = .int .u64 q ∧ v16 = .int .u64 r ∧ Aside0 (guessL v1 v0 a0 k q r = Q ∧ kq = k + 1 ∧ 0 ≤ q ∧ q ≤ 4294967297 ∧ 0 ≤ r ∧ r < 4294967296 ∧ 4294967296 ≤ r + k * v1) ∧ Drawn0 wr w')
    case atStart =>
     have h5 := HGS.out
     have h6 := HB0.out
     have h7 : 0 ≤ two / v1 := Int.ediv_nonneg h5.2.2.2.1 (by omega)
     have h8 := Int.emod_nonneg two (show v1 ≠ 0 by omega)
     have h9 := Int.emod_lt_of_pos two (show 0 < v1 by omega)
     exact ⟨_, _, 3, rfl, rfl, ⟨HQ.out, rfl, h7, h5.2.2.1, h8, by omega, by omega⟩, ⟨_, World.drewN_drewN _ _ _⟩⟩
    case round =>
     obtain ⟨q, r, k, rfl, rfl, HE, ⟨nw, rfl⟩⟩ := hrel
     have hE := HE.out
     have hb0 := HB0.out
     have w1_ : IntKind.u64.wrap (q - 1) = q - 1 ∨ q = 0 := by rcases Int.lt_or_le q 1 with h | h; exact .inr (by omega); exact .inl (u64s (by omega) (by omega))
     have w2_ : IntKind.u64.wrap (r + v1) = r + v1 := u64s (by omega) (by omega)
     have w3_ : IntKind.u64.wrap (r * 4294967296) = r * 4294967296 := u64s (by omega) (by omega)
     have w4_ := or_u64 (a := r) (b := a0) ⟨hE.2.2.2.2.1, hE.2.2.2.2.2.1⟩ hb0.1
     have w5_ : IntKind.u64.wrap a0 = a0 := u64s hb0.1.1 (by omega)
     have w6_ : IntKind.u64.wrap v0 = v0 := u64s hb0.2.2.1.1 (by omega)
     obtain ⟨t1, t2, t3, t4⟩ := sec_facts (m := m) (S := S) (by have := HT.out; omega) (by have := HT.out; omega)
     obtain ⟨o1, o2, o3, o4, o5, o6⟩ := idx2_facts (j := j) (m := m) (S := S) (N := N) (by have := HT.out; omega) (by have := HJ0.out; have := HA.out; omega) (by have := HJ0.out; have := HT.out; omega)
     clear hE hb0
     have HGE : Aside0 ((4294967296 ≤ q ∨ r * 4294967296 + a0 < q * v0) → 1 ≤ q ∧ 1 ≤ k ∧ Q = if 4294967296 ≤ r + v1 then q - 1 else guessL v1 v0 a0 (k - 1) (q - 1) (r + v1)) := ⟨fun hb => by
      have hE := HE.out
      have hB := HB0.out
      have hq1 : 1 ≤ q := by
       rcases hb with h | h
       ·omega
       ·rcases Int.lt_or_le q 1 with h1 | h1
        ·have : q = 0 := by omega
         subst this
         rw [Int.zero_mul] at h
         omega
        ·exact h1
      have hk1 : 1 ≤ k := by
       rcases Nat.lt_or_ge k 1 with h1 | h1
       ·have : k = 0 := by omega
        subst this
        have := hE.2.2.2.2.2.2
        rw [Int.natCast_zero, Int.zero_mul] at this
        omega
       ·exact h1
      refine ⟨hq1, hk1, ?_⟩
      have h2 := hE.1
      rw [show k = (k - 1) + 1 by omega] at h2
      unfold guessL at h2
      rw [if_pos hb] at h2
      exact h2.symm⟩
     have HGD : Aside0 (¬ (4294967296 ≤ q ∨ r * 4294967296 + a0 < q * v0) → Q = q) := ⟨fun hb => by
      have h2 := HE.out.1
      cases k with
      | zero => exact h2.symm
      | succ k =>
       unfold guessL at h2
       rw [if_neg hb] at h2
       exact h2.symm⟩
     by_cases hq : 4294967296 ≤ q
     ·have x1 : decide (4294967296 ≤ q) = true := dT hq
      have HX := aS (HGE.out (.inl hq))
      have w1 : IntKind.u64.wrap (q - 1) = q - 1 := by rcases w1_ with h | h; exact h; exact absurd hq (by omega)
      clear hq w1_ HGE HGD
      by_cases hr : 4294967296 ≤ r + v1
      ·have y1 : decide (4294967296 ≤ r + v1) = true := dT hr
       have HQ1 : Aside0 (q - 1 = Q) := ⟨by rw [HX.out.2.2, if_pos hr]⟩
       clear hr
       go_upto_region 15 with (fail)
       go_quiet (fail)
       go_wp2_with (fail)
       go_meet
       case rel => exact ⟨by rw [← HQ1.out] <;> first | rfl | rw [w1], ⟨_, by first | rfl | exact World.drewN_drewN _ _ _⟩⟩
      ·have y1 : decide (4294967296 ≤ r + v1) = false := dF hr
       have HQ1 : Aside0 (guessL v1 v0 a0 (k - 1) (q - 1) (r + v1) = Q) := ⟨by rw [HX.out.2.2, if_neg hr]⟩
       have HR1 := aS hr
       clear hr
       go_upto_region 15 with (fail)
       go_quiet (fail)
       go_wp2_with (fail)
       cases gk with
       | zero => exact absurd HE.out.2.1 (by omega)
       | succ k3 =>
        go_roundg k3
        case measure => omega
        case rel => exact ⟨q - 1, r + v1, k - 1, by first | rfl | rw [w1], rfl, ⟨HQ1.out, by have h1 := HE.out; have h2 := HX.out; omega, by have h2 := HX.out; omega, by have h1 := HE.out; omega, by have h1 := HE.out; have h2 := HB0.out; omega, by have h1 := HR1.out; omega, by have h1 := HE.out; have h2 := guess_left HX.out.2.1 r v1; omega⟩, ⟨_, by first | rfl | exact World.drewN_drewN _ _ _⟩⟩
     have x1 : decide (4294967296 ≤ q) = false := dF hq
     have HX := aS hq
     have hm0 : 0 ≤ q * v0 := Int.mul_nonneg (by have := HE.out; omega) (by have := HB0.out; omega)
     have hm1 : q * v0 ≤ 4294967295 * 4294967295 := Int.mul_le_mul (by omega) (by have := HB0.out; omega) (by have := HB0.out; omega) (by decide)
     have w7_ : IntKind.u64.wrap (q * v0) = q * v0 := u64s hm0 (by omega)
     clear hm0 hm1 hq
     by_cases hb : r * 4294967296 + a0 < q * v0; rotate_left
     ·have x2 : decide (r * 4294967296 + a0 < q * v0) = false := dF hb
      have HQ1 : Aside0 (q = Q) := ⟨(HGD.out (fun h => h.elim HX.out hb)).symm⟩
      clear hb w1_ HGE HGD
      go_upto_region 15 with (fail)
      go_quiet (fail)
      go_wp2_with (fail)
      go_meet
      case rel => exact ⟨by rw [← HQ1.out] <;> first | rfl | rw [w1], ⟨_, by first | rfl | exact World.drewN_drewN _ _ _⟩⟩
     have x2 : decide (r * 4294967296 + a0 < q * v0) = true := dT hb
     have HX2 := aS (HGE.out (.inr hb))
     have w1 : IntKind.u64.wrap (q - 1) = q - 1 := by rcases w1_ with h | h; exact h; exact absurd HX2.out.1 (by omega)
     clear hb w1_ HGE HGD
     by_cases hr : 4294967296 ≤ r + v1
     ·have y1 : decide (4294967296 ≤ r + v1) = true := dT hr
      have HQ1 : Aside0 (q - 1 = Q) := ⟨by rw [HX2.out.2.2, if_pos hr]⟩
      clear hr
      go_upto_region 15 with (fail)
      go_quiet (fail)
      go_wp2_with (fail)
      go_meet
      case rel => exact ⟨by rw [← HQ1.out] <;> first | rfl | rw [w1], ⟨_, by first | rfl | exact World.drewN_drewN _ _ _⟩⟩
     ·have y1 : decide (4294967296 ≤ r + v1) = false := dF hr
      have HQ1 : Aside0 (guessL v1 v0 a0 (k - 1) (q - 1) (r + v1) = Q) := ⟨by rw [HX2.out.2.2, if_neg hr]⟩
      have HR1 := aS hr
      clear hr
      go_upto_region 15 with (fail)
      go_quiet (fail)
      go_wp2_with (fail)
      cases gk with
      | zero => exact absurd HE.out.2.1 (by omega)
      | succ k3 =>
       go_roundg k3
       case measure => omega
       case rel => exact ⟨q - 1, r + v1, k - 1, by first | rfl | rw [w1], rfl, ⟨HQ1.out, by have h1 := HE.out; have h2 := HX2.out; omega, by have h2 := HX2.out; omega, by have h1 := HE.out; omega, by have h1 := HE.out; have h2 := HB0.out; omega, by have h1 := HR1.out; omega, by have h1 := HE.out; have h2 := guess_left HX2.out.2.1 r v1; omega⟩, ⟨_, by first | rfl | exact World.drewN_drewN _ _ _⟩⟩
   case rest =>
    obtain ⟨rfl, ⟨nw, rfl⟩⟩ := hcut
    clear i2 i3 i4 i5 i6 i7 i8 f1 f2 f3 f4 f5 f6 f7 f8 f9 f10 f11 R1 R2 R3 R4 R5 l1 l2 l3 l4 k1
    have hCU := (Kd.R_reads' HL.out).2.1
    have hCV := (Kd.R_reads' HV6.out).2.1
    obtain ⟨s1, s2, s3, s4, s5, s6, s7, s0⟩ := sl_facts (j := j) (m := m) (N := N) (cap := capu) (by have := HT.out; have := HJ0.out; have := HA.out; omega) (by have := HT.out; omega) hCU
    have HTK := aS (take_row (Q := Q) (j := j) (m := m) (Wn := Wn) (Kd.R_drewN HL.out nw) (Kd.R_drewN HV6.out nw) (pw_below_drewN HB.out nw) HGT.out HA.out.2.2.2.2.1 HTL0.out HKK.out.2.1 HKK.out.2.2.2.2 HSL.out HA.out.2.2.2.1 HV.out.1.1 ⟨HGS.out.1, HGS.out.2.1⟩ (by have := HT.out; have := HJ0.out; have := HA.out; omega) (by have := HT.out; omega) HWN.out (by have := HKK.out; omega))
    have HWL : Aside0 (Wn.length = m + 3) := ⟨by have h1 := HW.out.1; rw [HWN.out] at h1; exact h1⟩
    have HNX : Aside0 (divL v (j + 1) L = divL v j (putL L j (m + 3) (stepL v Wn).1) ∧ dv (List.drop j (putL L j (m + 3) (stepL v Wn).1)) < dv v) := ⟨step_next (by have := HSL.out; have := HT.out; omega) HWN.out, by have h1 := HW.out.2.2; rw [HWN.out] at h1; exact h1⟩
    clear hCU hCV
    by_cases hb : (tkL Q Wn v 0 0).2.2 = 0; rotate_left
    ·have hb1 : ((tkL Q Wn v 0 0).2.2 == 0) = false := beq_eq_false_iff_ne.2 hb
     have HS1 : Aside0 ((stepL v Wn).1 = (gvL (tkL Q Wn v 0 0).1 v 0).1) := ⟨by rw [HST.out, if_neg hb]⟩
     rw [hb1] at HTK
     clear hb1 hb
     go_wp2_with (fail)
     (with_reducible refine HTK.out.mono ?_)
     rintro e wa ⟨rfl, hL, hBa, hk⟩
     have HLa := aS hL
     have HBa := aS hBa
     have HOa := aS (row_keep (Kd.R_drewN HO.out nw) (Ne.symm HNE.out.1) hk)
     have HVa := aS (row_keep (Kd.R_drewN HV6.out nw) (Ne.symm HGT.out) hk)
     have HGV := aS (give_row (j := j) (m := m) HLa.out HVa.out HBa.out HGT.out HA.out.2.2.2.2.1 HTL0.out HKK.out.2.1 HKK.out.2.2.2.2 HSL.out HA.out.2.2.2.1 (tkL_ok _ _ _ _ _) (by rw [tkL_len]; exact HWL.out) HV.out.1.1 (by have := HT.out; have := HJ0.out; have := HA.out; omega) (by have := HT.out; omega) (by have := HKK.out; omega))
     clear hL hBa hk
     go_wp2_with (fail)
     (with_reducible refine HGV.out.mono ?_)
     rintro e wb ⟨rfl, hL, hBa, hk⟩
     replace HLa := aS hL
     replace HBa := aS hBa
     replace HOa := aS (row_keep HOa.out (Ne.symm HNE.out.1) hk)
     replace HVa := aS (row_keep HVa.out (Ne.symm HGT.out) hk)
     have hc := Kd.R_celln (0 : Int) HOa.out (j : Int) (by omega) (by have := HA.out; omega)
     rw [Int.toNat_natCast] at hc
     have R6 := hc.1
     have R7 := hc.2
     have s8 : ((j : Int) < (J : Int)) = True := eq_true (by have := HA.out; omega)
     have s9 : (j < J) = True := eq_true (by have := HA.out; omega)
     have s10 : wrap64 ((j : Int) - 1) = (j : Int) - 1 := d64 (by omega) (by have := HA.out; have := HJ0.out; have := HT.out; omega)
     clear hc hL hBa hk
     go_wp2_with (fail)
     cases gk with
     | zero => exact absurd HA.out.2.1 (by omega)
     | succ k3 =>
      go_roundg k3
      case measure => omega
      case rel =>
       have hp := (Kd.R_putg HOa.out (j : Int) (IntKind.u64.wrap (Q - 1) % 4294967296)).1
       rw [Int.toNat_natCast] at hp
       have hA := HA.out
       refine ⟨(j : Int) - 1, j, putL L j (m + 3) (gvL (tkL Q Wn v 0 0).1 v 0).1, O.set j (IntKind.u64.wrap (Q - 1) % 4294967296), by first | rfl | rw [s10], ⟨rfl, by omega, by omega, putL_ok hA.2.2.2.1 (gvL_ok _ _ _), by rw [putL_len (by rw [hA.2.2.2.2.1]; have := HT.out; have := HJ0.out; omega) (by rw [gvL_len, tkL_len]; exact HWL.out)]; exact hA.2.2.2.2.1, dOk_set hA.2.2.2.2.2.1 j (by omega), by rw [List.length_set]; exact hA.2.2.2.2.2.2⟩,
        ⟨by rw [← HS1.out, ← HNX.out.1]; exact HD.out⟩, ⟨by rw [← HS1.out]; exact HNX.out.2⟩, ⟨row_far HLa.out HNE.out.1 j _⟩, ⟨hp⟩, ⟨row_far HVa.out HNE.out.2 j _⟩, ⟨below_set HBa.out (Kd.R_base HOa.out g3 rfl)⟩⟩
    have hb1 : ((tkL Q Wn v 0 0).2.2 == 0) = true := by rw [hb]; rfl
    have HS1 : Aside0 ((stepL v Wn).1 = (tkL Q Wn v 0 0).1) := ⟨by rw [HST.out, if_pos hb]⟩
    rw [hb1] at HTK
    clear hb1 hb
    go_wp2_with (fail)
    (with_reducible refine HTK.out.mono ?_)
    rintro e wa ⟨rfl, hL, hBa, hk⟩
    have HLa := aS hL
    have HBa := aS hBa
    have HOa := aS (row_keep (Kd.R_drewN HO.out nw) (Ne.symm HNE.out.1) hk)
    have HVa := aS (row_keep (Kd.R_drewN HV6.out nw) (Ne.symm HGT.out) hk)
    have hc := Kd.R_celln (0 : Int) HOa.out (j : Int) (by omega) (by have := HA.out; omega)
    rw [Int.toNat_natCast] at hc
    have R6 := hc.1
    have R7 := hc.2
    have s8 : ((j : Int) < (J : Int)) = True := eq_true (by have := HA.out; omega)
    have s9 : (j < J) = True := eq_true (by have := HA.out; omega)
    have s10 : wrap64 ((j : Int) - 1) = (j : Int) - 1 := d64 (by omega) (by have := HA.out; have := HJ0.out; have := HT.out; omega)
    clear hc hL hBa hk
    go_wp2_with (fail)
    cases gk with
    | zero => exact absurd HA.out.2.1 (by omega)
    | succ k3 =>
     go_roundg k3
     case measure => omega
     case rel =>
      have hp := (Kd.R_putg HOa.out (j : Int) (Q % 4294967296)).1
      rw [Int.toNat_natCast] at hp
      have hA := HA.out
      refine ⟨(j : Int) - 1, j, putL L j (m + 3) (tkL Q Wn v 0 0).1, O.set j (Q % 4294967296), by first | rfl | rw [s10], ⟨rfl, by omega, by omega, putL_ok hA.2.2.2.1 (tkL_ok _ _ _ _ _), by rw [putL_len (by rw [hA.2.2.2.2.1]; have := HT.out; have := HJ0.out; omega) (by rw [tkL_len]; exact HWL.out)]; exact hA.2.2.2.2.1, dOk_set hA.2.2.2.2.2.1 j (by omega), by rw [List.length_set]; exact hA.2.2.2.2.2.2⟩,
       ⟨by rw [← HS1.out, ← HNX.out.1]; exact HD.out⟩, ⟨by rw [← HS1.out]; exact HNX.out.2⟩, ⟨row_far HLa.out HNE.out.1 j _⟩, ⟨hp⟩, ⟨row_far HVa.out HNE.out.2 j _⟩, ⟨below_set HBa.out (Kd.R_base HOa.out g3 rfl)⟩⟩
end Go.Proofs.YtbkknoipgmlcmaaGreatDoor.P

