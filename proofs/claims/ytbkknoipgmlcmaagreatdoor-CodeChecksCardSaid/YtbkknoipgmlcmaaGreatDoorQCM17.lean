import Derived.KernelRfl
import Derived.Test.YtbkknoipgmlcmaaGreatDoorQCM16
set_option linter.unusedVariables false
set_option linter.unusedSimpArgs false
namespace Go.Proofs.YtbkknoipgmlcmaaGreatDoor.P
open Go.RowKit Go.Proofs.YtbkknoipgmlcmaaGreatDoorW.PrintWords Go.Proofs.YtbkknoipgmlcmaaGreatDoorW.PrintLast Go.Proofs.YtbkknoipgmlcmaaGreatDoorW.PrintMore
theorem w32 (n : Int) (h0 : 0 ≤ n) (h1 : n < 2 ^ 32) : IntKind.u32.wrap n = n := by rw [IntKind.wrap_u32]; omega
theorem or_u32 {i : Nat} {a b : Int} (ha : 0 ≤ a ∧ a < 4294967296) (hb : 0 ≤ b ∧ b < 4294967296) (hm : a % 2 ^ i = 0) (hl : b < 2 ^ i) : bits .or .u32 a b = a + b ∧ bits .or .u32 b a = a + b := by
 have h := bits_join .u32 32 (by decide) w32 i a b ha.1 hm (by omega) hb.1 hl (by omega)
 refine ⟨h, ?_⟩
 obtain ⟨m, rfl⟩ := Int.eq_ofNat_of_zero_le ha.1
 obtain ⟨n, rfl⟩ := Int.eq_ofNat_of_zero_le hb.1
 rw [(bits_nat .u32 32 (by decide) w32 n m (by omega) (by omega)).2, Nat.or_comm, ← (bits_nat .u32 32 (by decide) w32 m n (by omega) (by omega)).2, h]
theorem set_mid (p : List Int) (c v : Int) (z : List Int) : (p ++ c :: z).set p.length v = p ++ v :: z := by
 rw [List.set_append_right _ _ (Nat.le_refl _), Nat.sub_self]; rfl
theorem get_mid (p : List Int) (c : Int) (z : List Int) : (p ++ c :: z).getD p.length 0 = c := by
 rw [List.getD_eq_getElem?_getD, List.getElem?_append_right (Nat.le_refl _), Nat.sub_self]; rfl
theorem two_pow {n : Nat} (h : n < 32) : ∃ e f : Int, (2 : Int) ^ n = e ∧ (2 : Int) ^ (32 - n) = f ∧ e * f = 4294967296 ∧ 1 ≤ e ∧ 2 ≤ f := by
 refine ⟨_, _, rfl, rfl, ?_, ?_, ?_⟩
 ·rw [← Int.pow_add, show n + (32 - n) = 32 by omega]; decide
 ·have : (0 : Int) < 2 ^ n := Int.pow_pos (by decide)
  omega
 ·have : (0 : Int) < 2 ^ (31 - n) := Int.pow_pos (by decide)
  have e : (2 : Int) ^ (32 - n) = 2 ^ (31 - n) * 2 := by rw [← Int.pow_succ]; congr 1; omega
  omega
theorem dv_snoc (p : List Int) (c : Int) : dv (p ++ [c]) = dv p + pB p.length * c := by
 rw [dv_append]
 simp [dv]
theorem dv_take_succ (x : List Int) (i : Nat) (h : i < x.length) : dv (x.take (i + 1)) = dv (x.take i) + pB i * x.getD i 0 := by
 have e : x.take (i + 1) = x.take i ++ [x.getD i 0] := by
  rw [List.getD_eq_getElem?_getD, List.getElem?_eq_getElem h, Option.getD_some, List.take_succ_eq_append_getElem h]
 rw [e, dv_snoc, List.length_take, Nat.min_eq_left (by omega)]
def pB1 (P : Int) : Int := 4294967296 * P
theorem left_sum (P D X d e c t : Int) (hv : D + P * c = X * e) (ht : d * e = t) : D + P * (t % 4294967296 + c) + pB1 P * (t / 4294967296) = (X + P * d) * e := by
 have h4 := Int.mul_ediv_add_emod t 4294967296
 unfold pB1
 generalize t / 4294967296 = a at *
 generalize t % 4294967296 = b at *
 grind
theorem left_ev {x : List Int} {n : Nat} {e f : Int} (hx : dOk x) (hn : n < 32) (he : (2 : Int) ^ n = e) (hf : (2 : Int) ^ (32 - n) = f) (hef : e * f = 4294967296) (he1 : 1 ≤ e) (hf2 : 2 ≤ f) (hb : x.length ≤ 1000000) :
 ∀ (j i : Nat) (p : List Int) (c : Int), i + j = x.length → p.length = i → dOk p → 0 ≤ c → c < e → dv (p ++ [c]) = dv (x.take i) * e →
  ∃ r, Ev (fun k => nat_left.l0 k (n : Int) (p ++ c :: List.replicate j 0) x (x.length : Int) (i : Int)) r ∧ dOk r ∧ r.length = x.length + 1 ∧ dv r = dv x * e := by
 intro j
 induction j with
 | zero =>
  intro i p c hij hp hpo hc0 hce hv
  have heB : e ≤ 4294967296 := by
   have := Int.mul_le_mul_of_nonneg_left (show (1 : Int) ≤ f by omega) (show 0 ≤ e by omega)
   omega
  refine ⟨p ++ [c], Ev.step (f := fun _ => some (p ++ [c])) (fun k => ?_) (Ev.now _), dOk_append.2 ⟨hpo, dOk_cons.2 ⟨by omega, fun d hd => by cases hd⟩⟩, by rw [List.length_append, hp]; simp; omega, ?_⟩
  ·simp only [nat_left.l0]
   rw [if_neg (by omega)]
   rfl
  ·rw [hv, List.take_of_length_le (by omega)]
 | succ j ih =>
  intro i p c hij hp hpo hc0 hce hv
  have hg := getD_digit hx i
  have heB : e ≤ 4294967296 := by
   have := Int.mul_le_mul_of_nonneg_left (show (1 : Int) ≤ f by omega) (show 0 ≤ e by omega)
   omega
  have e1 : wrap64 ((i : Int) + 1) = ((i + 1 : Nat) : Int) := by rw [d64 (by omega) (by omega)]; omega
  have hd0 : 0 ≤ x.getD i 0 * e := Int.mul_nonneg hg.1 (by omega)
  have hd1 : x.getD i 0 * e < 4294967296 * e := Int.mul_lt_mul_of_pos_right hg.2 (by omega)
  have hd2 : 4294967296 * e ≤ 4294967296 * 4294967296 := Int.mul_le_mul_of_nonneg_left heB (by decide)
  have es : shl .u64 (IntKind.u64.wrap (rd x (i : Int))) (n : Int) = x.getD i 0 * e := by
   unfold shl
   rw [rd_nat, u64s (n := x.getD i 0) hg.1 (by omega), Int.toNat_natCast, Nat.min_eq_left (by show n ≤ 64; omega), he]
   exact u64s hd0 (by omega)
  generalize ht : x.getD i 0 * e = t at *
  have hmod : t % 4294967296 = e * (x.getD i 0 % f) := by
   rw [← ht, ← hef, Int.mul_comm (x.getD i 0) e, Int.mul_emod_mul_of_pos _ _ (by omega)]
  have hmul : (t % 4294967296) % 2 ^ n = 0 := by rw [he, hmod]; exact Int.mul_emod_right e _
  have hr := rd_nat (p ++ c :: List.replicate (j + 1) 0) i
  have hg2 : (p ++ c :: List.replicate (j + 1) 0).getD i 0 = c := by rw [← hp]; exact get_mid _ _ _
  have hm0 := Int.emod_nonneg t (show (4294967296 : Int) ≠ 0 by decide)
  have hm1 := Int.emod_lt_of_pos t (show (0 : Int) < 4294967296 by decide)
  have ho := (or_u32 (i := n) ⟨hm0, hm1⟩ ⟨hc0, by omega⟩ hmul (by rw [he]; exact hce)).2
  have htq : t / 4294967296 < e := Int.ediv_lt_of_lt_mul (by decide) (by omega)
  have htq0 : 0 ≤ t / 4294967296 := Int.ediv_nonneg hd0 (by decide)
  have hsum : t % 4294967296 + c < 4294967296 := by
   have h1 : x.getD i 0 % f + 1 ≤ f := by have := Int.emod_lt_of_pos (x.getD i 0) (show 0 < f by omega); omega
   have h2 := Int.mul_le_mul_of_nonneg_left h1 (show 0 ≤ e by omega)
   have h3 : e * (x.getD i 0 % f + 1) = e * (x.getD i 0 % f) + e := by grind
   omega
  have hset : ((p ++ c :: List.replicate (j + 1) 0).set i (t % 4294967296 + c)).set (i + 1) (t / 4294967296 % 4294967296) = (p ++ [t % 4294967296 + c]) ++ (t / 4294967296) :: List.replicate j 0 := by
   rw [← hp, set_mid, show p ++ (t % 4294967296 + c) :: List.replicate (j + 1) 0 = (p ++ [t % 4294967296 + c]) ++ 0 :: List.replicate j 0 by simp [List.replicate_succ],
    show p.length + 1 = (p ++ [t % 4294967296 + c]).length by simp, set_mid, Int.emod_eq_of_lt htq0 (by omega)]
  have hv2 : dv ((p ++ [t % 4294967296 + c]) ++ [t / 4294967296]) = dv (x.take (i + 1)) * e := by
   rw [dv_snoc, dv_snoc, List.length_append, List.length_singleton, hp, dv_take_succ x i (by omega), show pB (i + 1) = pB1 (pB i) from rfl]
   rw [dv_snoc, hp] at hv
   exact left_sum (pB i) (dv p) (dv (x.take i)) (x.getD i 0) e c t hv ht
  obtain ⟨r, hr1, hr2, hr3, hr4⟩ := ih (i + 1) (p ++ [t % 4294967296 + c]) (t / 4294967296) (by omega) (by rw [List.length_append, hp]; rfl) (dOk_append.2 ⟨hpo, dOk_cons.2 ⟨by omega, fun d hd => by cases hd⟩⟩) htq0 htq hv2
  refine ⟨r, Ev.step (fun k => ?_) hr1, hr2, hr3, hr4⟩
  have hlen : (p ++ c :: List.replicate (j + 1) 0).length = x.length + 1 := by rw [List.length_append, hp, List.length_cons, List.length_replicate]; omega
  simp only [nat_left.l0, es, e1, hr, hg2, ho, hlen]
  clear hr1 ih hsum hmul hmod es hv hv2 hx he hf hef hm0 hm1 ho htq htq0 hd0 hd1 hd2 hg hpo
  have c1 : (i : Int) < (x.length : Int) := by omega
  have c2 : (0 : Int) ≤ (i : Int) := by omega
  have c3 : (0 : Int) ≤ (n : Int) := by omega
  have c4 : (i : Int) < ((x.length + 1 : Nat) : Int) := by omega
  have c5 : (0 : Int) ≤ ((i + 1 : Nat) : Int) := by omega
  have c6 : ((i + 1 : Nat) : Int) < ((x.length + 1 : Nat) : Int) := by omega
  rw [if_pos c1, if_pos c2, if_pos c1, if_pos c3, if_pos c4, if_pos c5, if_pos c6, Int.toNat_natCast, Int.toNat_natCast, hset]
theorem left_at {x : List Int} {n : Nat} (hx : dOk x) (hn : n < 32) (hb : x.length ≤ 1000000) : ∃ r : List Int, Ev (fun k => nat_left.f k x (n : Int)) r ∧ dOk r ∧ r.length = x.length + 1 ∧ dv r = dv x * 2 ^ n := by
 obtain ⟨e, f, he, hf, hef, he1, hf2⟩ := two_pow hn
 obtain ⟨r, h1, h2, h3, h4⟩ := left_ev hx hn he hf hef he1 hf2 hb x.length 0 [] 0 (Nat.zero_add _) rfl (fun d hd => by cases hd) (Int.le_refl 0) (by clear he hf hef; omega) (by rw [List.take_zero]; simp only [List.nil_append, dv, Int.mul_zero, Int.add_zero, Int.zero_mul])
 rw [← he] at h4
 refine ⟨r, Ev.congr (fun k => ?_) h1, h2, h3, h4⟩
 unfold nat_left.f
 clear he hf hef he1 hf2 h1 h2 h3 h4
 have e1 : wrap64 ((x.length : Int) + 1) = ((x.length + 1 : Nat) : Int) := by rw [d64 (by omega) (by omega)]; omega
 have c1 : (0 : Int) ≤ ((x.length + 1 : Nat) : Int) := by omega
 have c2 : x.length + 1 ≤ 70368744177664 := by omega
 rw [e1, if_pos c1, Int.toNat_natCast, if_pos c2]
 simp only [List.nil_append, List.replicate_succ, Int.cast_ofNat_Int]
theorem or_zero {a : Int} (ha : 0 ≤ a ∧ a < 4294967296) : bits .or .u32 0 a = a := by
 have := (or_u32 (i := 0) (a := a) (b := 0) ha (by decide) (by omega) (by decide)).2
 rw [this, Int.add_zero]
def rightL (e f : Int) : List Int → List Int
 | [] => []
 | [d] => [d / e]
 | d :: d2 :: l => (d / e + d2 % e * f) :: rightL e f (d2 :: l)
theorem rightL_snoc (e f : Int) : ∀ (l : List Int) (a d : Int), rightL e f (l ++ [a] ++ [d]) = (rightL e f (l ++ [a])).dropLast ++ [a / e + d % e * f] ++ [d / e]
 | [], a, d => rfl
 | [b], a, d => rfl
 | b :: c :: l, a, d => by
  have ih := rightL_snoc e f (c :: l) a d
  show (b / e + c % e * f) :: rightL e f (c :: (l ++ [a] ++ [d])) = ((b / e + c % e * f) :: rightL e f (c :: (l ++ [a]))).dropLast ++ [a / e + d % e * f] ++ [d / e]
  have e1 : rightL e f (c :: (l ++ [a] ++ [d])) = rightL e f (c :: l ++ [a] ++ [d]) := rfl
  rw [e1, ih]
  cases h : rightL e f (c :: (l ++ [a])) with
  | nil => cases l <;> simp [rightL] at h
  | cons x xs =>
   have e2 : rightL e f (c :: l ++ [a]) = x :: xs := h
   rw [e2]
   rfl
theorem rightL_last (e f : Int) : ∀ (l : List Int) (a : Int), ∃ p, rightL e f (l ++ [a]) = p ++ [a / e] ∧ p.length = l.length
 | [], a => ⟨[], rfl, rfl⟩
 | [b], a => ⟨[b / e + a % e * f], rfl, rfl⟩
 | b :: c :: l, a => by
  obtain ⟨p, h, hl⟩ := rightL_last e f (c :: l) a
  refine ⟨(b / e + c % e * f) :: p, ?_, by simp [hl]⟩
  show (b / e + c % e * f) :: rightL e f (c :: l ++ [a]) = _
  rw [h]
  rfl
theorem rightL_len (e f : Int) : ∀ l, (rightL e f l).length = l.length
 | [] => rfl
 | [_] => rfl
 | d :: d2 :: l => by simp only [rightL, List.length_cons]; rw [rightL_len e f (d2 :: l)]; rfl
theorem right_digit {d e f a : Int} (he : 1 ≤ e) (hf : 2 ≤ f) (hef : e * f = 4294967296) (hd : 0 ≤ d ∧ d < 4294967296) (ha : 0 ≤ a ∧ a < 4294967296) :
 (0 ≤ d / e ∧ d / e < f) ∧ (0 ≤ a % e * f ∧ a % e * f + f ≤ 4294967296) := by
 have h1 : d / e < f := Int.ediv_lt_of_lt_mul (by omega) (by rw [Int.mul_comm]; omega)
 have h2 : 0 ≤ d / e := Int.ediv_nonneg hd.1 (by omega)
 have h3 := Int.emod_nonneg a (show e ≠ 0 by omega)
 have h4 := Int.emod_lt_of_pos a (show 0 < e by omega)
 have h5 := Int.mul_le_mul_of_nonneg_right (show a % e + 1 ≤ e by omega) (show 0 ≤ f by omega)
 have h6 : (a % e + 1) * f = a % e * f + f := by grind
 exact ⟨⟨h2, h1⟩, Int.mul_nonneg h3 (by omega), by omega⟩
theorem rightL_ok {e f : Int} (he : 1 ≤ e) (hf : 2 ≤ f) (hef : e * f = 4294967296) : ∀ l, dOk l → dOk (rightL e f l)
 | [], _ => fun d hd => by cases hd
 | [d], h => by
  have h1 := (dOk_cons.1 h).1
  have h2 := right_digit he hf hef h1 h1
  refine dOk_cons.2 ⟨⟨h2.1.1, ?_⟩, fun d hd => by cases hd⟩
  have := h2.2
  omega
 | d :: d2 :: l, h => by
  obtain ⟨h1, h2⟩ := dOk_cons.1 h
  have h3 := right_digit he hf hef h1 (dOk_cons.1 h2).1
  exact dOk_cons.2 ⟨by omega, rightL_ok he hf hef (d2 :: l) h2⟩
theorem rightL_dv {e f : Int} (he : 1 ≤ e) (hf : 2 ≤ f) (hef : e * f = 4294967296) : ∀ l, dOk l → dv (rightL e f l) = dv l / e
 | [], _ => by simp [rightL, dv]
 | [d], h => by simp [rightL, dv]
 | d :: d2 :: l, h => by
  obtain ⟨h1, h2⟩ := dOk_cons.1 h
  have ih := rightL_dv he hf hef (d2 :: l) h2
  show d / e + d2 % e * f + 4294967296 * dv (rightL e f (d2 :: l)) = (d + 4294967296 * dv (d2 :: l)) / e
  rw [ih]
  have hm : dv (d2 :: l) % e = d2 % e := by
   have : dv (d2 :: l) = d2 + e * (f * dv l) := by show d2 + 4294967296 * dv l = _; rw [← hef]; grind
   rw [this, Int.add_mul_emod_self_left]
  generalize dv (d2 :: l) = y at *
  have h3 := Int.mul_ediv_add_emod d e
  have h4 := Int.mul_ediv_add_emod y e
  have h5 := Int.emod_nonneg d (show e ≠ 0 by omega)
  have h6 := Int.emod_lt_of_pos d (show 0 < e by omega)
  have h7 : d + 4294967296 * y = d % e + e * (d / e + d2 % e * f + 4294967296 * (y / e)) := by
   rw [← hm]
   generalize d / e = a at *
   generalize d % e = b at *
   generalize y / e = a2 at *
   generalize y % e = b2 at *
   rw [← h3, ← h4, ← hef]
   grind
  rw [h7, Int.add_mul_ediv_left _ _ (by omega), Int.ediv_eq_zero_of_lt h5 h6, Int.zero_add]
theorem shr_u32 {n : Nat} (hn : n < 32) (d : Int) : shr .u32 d (n : Int) = d / 2 ^ n := by
 unfold shr
 rw [Int.toNat_natCast, Nat.min_eq_left (by show n ≤ 32; omega)]
theorem shr_low {n : Nat} {e f d : Int} (hn : n < 32) (he : (2 : Int) ^ n = e) (hef : e * f = 4294967296) (he1 : 1 ≤ e) (hf2 : 2 ≤ f) (hd : 0 ≤ d ∧ d < 4294967296) :
 (shr .u64 (IntKind.u64.wrap (IntKind.u64.wrap d * 4294967296)) (n : Int)) % 4294967296 = d % e * f := by
 unfold shr
 rw [Int.toNat_natCast, Nat.min_eq_left (by show n ≤ 64; omega), he]
 clear he
 rw [u64s (n := d) hd.1 (by omega), u64s (by omega) (by omega)]
 have h1 : d * 4294967296 / e = d * f := by
  have : d * 4294967296 = e * (d * f) := by rw [← hef]; grind
  rw [this, Int.mul_ediv_cancel_left _ (by omega)]
 rw [h1, ← hef, Int.mul_comm d f, Int.mul_comm e f, Int.mul_emod_mul_of_pos _ _ (by omega), Int.mul_comm]
theorem take_snoc' {x : List Int} {i : Nat} (h : i < x.length) : x.take (i + 1) = x.take i ++ [x.getD i 0] := by
 rw [List.getD_eq_getElem?_getD, List.getElem?_eq_getElem h, Option.getD_some, List.take_succ_eq_append_getElem h]
theorem set_at (p : List Int) (c v : Int) (z : List Int) {i : Nat} (h : p.length = i) : (p ++ c :: z).set i v = p ++ v :: z := by rw [← h]; exact set_mid p c v z
theorem get_at (p : List Int) (c : Int) (z : List Int) {i : Nat} (h : p.length = i) : (p ++ c :: z).getD i 0 = c := by rw [← h]; exact get_mid p c z
theorem right_ev {x : List Int} {n : Nat} {e f : Int} (hx : dOk x) (hn : n < 32) (HE : Aside0 ((2 : Int) ^ n = e)) (HF : Aside0 ((2 : Int) ^ (32 - n) = f)) (hef : e * f = 4294967296) (he1 : 1 ≤ e) (hf2 : 2 ≤ f) (hb : x.length ≤ 1000000)
 {r : List Int} (hr : Ev (fun k => nat_trim.f k (rightL e f x)) r) :
 ∀ (j i : Nat), i + j = x.length → Ev (fun k => nat_right.l0 k (n : Int) (rightL e f (x.take i) ++ List.replicate j 0) x (x.length : Int) (i : Int)) r := by
 intro j
 induction j with
 | zero =>
  intro i hij
  refine Ev.step (f := fun k => (nat_trim.f k (rightL e f x)).bind fun t => some t) (fun k => ?_) (Ev.bind hr (Ev.now _))
  have c1 : ¬ (i : Int) < (x.length : Int) := by omega
  simp only [nat_right.l0]
  rw [if_neg c1, List.replicate_zero, List.append_nil, List.take_of_length_le (by omega)]
 | succ j ih =>
  intro i hij
  have hi : i < x.length := by omega
  have hg := getD_digit hx i
  have e1 : wrap64 ((i : Int) + 1) = ((i + 1 : Nat) : Int) := by rw [d64 (by omega) (by omega)]; omega
  have hpl : (rightL e f (x.take i)).length = i := by rw [rightL_len, List.length_take, Nat.min_eq_left (by omega)]
  have hlen : (rightL e f (x.take i) ++ List.replicate (j + 1) 0).length = x.length := by rw [List.length_append, hpl, List.length_replicate]; omega
  have hd := right_digit he1 hf2 hef hg hg
  have s1 : shr .u32 (rd x (i : Int)) (n : Int) = x.getD i 0 / e := by rw [rd_nat, shr_u32 hn, HE.out]
  have s2 := shr_low hn HE.out hef he1 hf2 hg
  rw [← rd_nat x i] at s2
  have g0 : rd (rightL e f (x.take i) ++ List.replicate (j + 1) 0) (i : Int) = 0 := by rw [rd_nat, List.replicate_succ]; exact get_at _ _ _ hpl
  have o0 : bits .or .u32 0 (x.getD i 0 / e) = x.getD i 0 / e := or_zero ⟨hd.1.1, by have := hd.2.1; have := hd.2.2; omega⟩
  have hset : (rightL e f (x.take i) ++ List.replicate (j + 1) 0).set i (x.getD i 0 / e) = rightL e f (x.take i) ++ (x.getD i 0 / e) :: List.replicate j 0 := by rw [List.replicate_succ]; exact set_at _ _ _ _ hpl
  have c1 : (i : Int) < (x.length : Int) := by omega
  have c2 : (0 : Int) ≤ (i : Int) := by omega
  have c3 : (0 : Int) ≤ (n : Int) := by omega
  have hnext := ih (i + 1) (by omega)
  cases i with
  | zero =>
   refine Ev.step (fun k => ?_) hnext
   have c4 : ¬ ((0 : Nat) : Int) > 0 := by omega
   simp only [nat_right.l0, hlen]
   rw [if_pos c1, if_pos c2, if_pos c1, if_pos c1, if_pos c3, Option.bind_some, if_neg c4, s1, g0, o0, Int.toNat_natCast, hset, e1]
   have e5 : rightL e f (x.take 0) ++ x.getD 0 0 / e :: List.replicate j 0 = rightL e f (x.take (0 + 1)) ++ List.replicate j 0 := by
    rw [take_snoc' hi]
    rfl
   rw [e5]
  | succ m =>
   refine Ev.step (fun k => ?_) hnext
   have c4 : ((m + 1 : Nat) : Int) > 0 := by omega
   have e2 : wrap64 (((m + 1 : Nat) : Int) - 1) = (m : Int) := by rw [d64 (by omega) (by omega)]; omega
   have c5 : (0 : Int) ≤ (m : Int) := by omega
   have c6 : (m : Int) < (x.length : Int) := by omega
   obtain ⟨p, hp, hpm⟩ := rightL_last e f (x.take m) (x.getD m 0)
   have hgm := getD_digit hx m
   have hdm := right_digit he1 hf2 hef hgm hg
   have htm : x.take (m + 1) = x.take m ++ [x.getD m 0] := take_snoc' (by omega)
   have hpm2 : p.length = m := by rw [hpm, List.length_take, Nat.min_eq_left (by omega)]
   rw [htm, hp] at hset hlen g0
   have e6 : (p ++ [x.getD m 0 / e] ++ x.getD (m + 1) 0 / e :: List.replicate j 0) = p ++ (x.getD m 0 / e) :: (x.getD (m + 1) 0 / e :: List.replicate j 0) := by simp
   have g1 : rd (p ++ [x.getD m 0 / e] ++ x.getD (m + 1) 0 / e :: List.replicate j 0) (m : Int) = x.getD m 0 / e := by rw [rd_nat, e6]; exact get_at _ _ _ hpm2
   have o1 : bits .or .u32 (x.getD m 0 / e) (x.getD (m + 1) 0 % e * f) = x.getD (m + 1) 0 % e * f + x.getD m 0 / e := by
    refine (or_u32 (i := 32 - n) ⟨hdm.2.1, ?_⟩ ⟨hdm.1.1, ?_⟩ ?_ ?_).2
    ·have := hdm.2.2; omega
    ·have := hdm.1.2; have := hdm.2.1; have := hdm.2.2; omega
    ·rw [HF.out]; exact Int.mul_emod_left _ _
    ·rw [HF.out]; exact hdm.1.2
   simp only [nat_right.l0]
   rw [htm, hp]
   have hlen2 : (p ++ [x.getD m 0 / e] ++ x.getD (m + 1) 0 / e :: List.replicate j 0).length = x.length := by rw [← hset, List.length_set]; exact hlen
   rw [if_pos c1, if_pos c2, if_pos c1, hlen, if_pos c1, if_pos c3, Option.bind_some, if_pos c4, e2, if_pos c5, if_pos c6, s1, g0, o0, Int.toNat_natCast, hset, g1, s2, ← rd_nat x (m + 1)]
   rw [rd_nat, o1, Int.toNat_natCast, e6, set_at _ _ _ _ hpm2, e1]
   have e5 : p ++ (x.getD (m + 1) 0 % e * f + x.getD m 0 / e) :: (x.getD (m + 1) 0 / e :: List.replicate j 0) = rightL e f (x.take (m + 1 + 1)) ++ List.replicate j 0 := by
    rw [take_snoc' hi, htm, rightL_snoc, hp, List.dropLast_concat, Int.add_comm]
    simp
   rw [e5]
theorem right_at {x : List Int} {n : Nat} (hx : dOk x) (hn : n < 32) (hb : x.length ≤ 1000000) : ∃ r : List Int, Ev (fun k => nat_right.f k x (n : Int)) r ∧ dCan r ∧ dv r = dv x / 2 ^ n := by
 obtain ⟨e, f, he, hf, hef, he1, hf2⟩ := two_pow hn
 obtain ⟨r, h1, h2, h3, h4⟩ := trim_ev x.length (rightL e f x) (rightL_len _ _ _) (rightL_ok he1 hf2 hef x hx) hb
 have h5 := right_ev hx hn ⟨he⟩ ⟨hf⟩ hef he1 hf2 hb h1 x.length 0 (Nat.zero_add _)
 rw [rightL_dv he1 hf2 hef x hx, ← he] at h3
 refine ⟨r, Ev.congr (fun k => ?_) h5, h2, h3⟩
 unfold nat_right.f
 clear he hf hef he1 hf2 h1 h2 h3 h4 h5
 have c1 : (0 : Int) ≤ ((x.length : Nat) : Int) := by omega
 have c2 : x.length ≤ 70368744177664 := by omega
 rw [if_pos c1, Int.toNat_natCast, if_pos c2]
 rfl
def len8 : ByteArray := ⟨#[0, 1, 2, 2, 3, 3, 3, 3, 4, 4, 4, 4, 4, 4, 4, 4, 5, 5, 5, 5, 5, 5, 5, 5, 5, 5, 5, 5, 5, 5, 5, 5, 6, 6, 6, 6, 6, 6, 6, 6, 6, 6, 6, 6, 6, 6, 6, 6, 6, 6, 6, 6, 6, 6, 6, 6, 6, 6, 6, 6, 6, 6, 6, 6, 7, 7, 7, 7, 7, 7, 7, 7, 7, 7, 7, 7, 7, 7, 7, 7, 7, 7, 7, 7, 7, 7, 7, 7, 7, 7, 7, 7, 7, 7, 7, 7, 7, 7, 7, 7, 7, 7, 7, 7, 7, 7, 7, 7, 7, 7, 7, 7, 7, 7, 7, 7, 7, 7, 7, 7, 7, 7, 7, 7, 7, 7, 7, 7, 8, 8, 8, 8, 8, 8, 8, 8, 8, 8, 8, 8, 8, 8, 8, 8, 8, 8, 8, 8, 8, 8, 8, 8, 8, 8, 8, 8, 8, 8, 8, 8, 8, 8, 8, 8, 8, 8, 8, 8, 8, 8, 8, 8, 8, 8, 8, 8, 8, 8, 8, 8, 8, 8, 8, 8, 8, 8, 8, 8, 8, 8, 8, 8, 8, 8, 8, 8, 8, 8, 8, 8, 8, 8, 8, 8, 8, 8, 8, 8, 8, 8, 8, 8, 8, 8, 8, 8, 8, 8, 8, 8, 8, 8, 8, 8, 8, 8, 8, 8, 8, 8, 8, 8, 8, 8, 8, 8, 8, 8, 8, 8, 8, 8, 8, 8, 8, 8, 8, 8, 8, 8, 8, 8, 8, 8, 8, 8]⟩
def Len8 (i v : Int) : Prop := (v = 1 ∧ 1 ≤ i ∧ i < 2) ∨ (v = 2 ∧ 2 ≤ i ∧ i < 4) ∨ (v = 3 ∧ 4 ≤ i ∧ i < 8) ∨ (v = 4 ∧ 8 ≤ i ∧ i < 16) ∨ (v = 5 ∧ 16 ≤ i ∧ i < 32) ∨ (v = 6 ∧ 32 ≤ i ∧ i < 64) ∨ (v = 7 ∧ 64 ≤ i ∧ i < 128) ∨ (v = 8 ∧ 128 ≤ i ∧ i < 256)
def len8B (i : Int) : Bool := (bt len8 i == 1 && decide (1 ≤ i) && decide (i < 2)) || (bt len8 i == 2 && decide (2 ≤ i) && decide (i < 4)) || (bt len8 i == 3 && decide (4 ≤ i) && decide (i < 8)) || (bt len8 i == 4 && decide (8 ≤ i) && decide (i < 16)) || (bt len8 i == 5 && decide (16 ≤ i) && decide (i < 32)) || (bt len8 i == 6 && decide (32 ≤ i) && decide (i < 64)) || (bt len8 i == 7 && decide (64 ≤ i) && decide (i < 128)) || (bt len8 i == 8 && decide (128 ≤ i) && decide (i < 256))
theorem len8_all : (List.range 256).all (fun k => k == 0 || len8B (k : Int)) = true := by kernel_rfl
theorem len8_ok {i : Int} (h0 : 0 < i) (h1 : i < 256) : Len8 i (bt len8 i) := by
 obtain ⟨k, rfl⟩ := Int.eq_ofNat_of_zero_le (Int.le_of_lt h0)
 have h := List.all_eq_true.1 len8_all k (List.mem_range.2 (by omega))
 rw [Bool.or_eq_true] at h
 rcases h with h | h
 ·have : k = 0 := by simpa using h
  omega
 ·simp only [len8B, Bool.or_eq_true, Bool.and_eq_true, beq_iff_eq, decide_eq_true_eq] at h
  unfold Len8
  omega
theorem len32 {a : Int} (h0 : 0 < a) (h1 : a < 4294967296) : ∃ s t v : Int, bits_Len32.f a = some (s + v) ∧ Len8 t v ∧ ((s = 24 ∧ t = a / 16777216) ∨ (s = 16 ∧ t = a / 65536 ∧ t < 256) ∨ (s = 8 ∧ t = a / 256 ∧ t < 256) ∨ (s = 0 ∧ t = a ∧ t < 256)) := by
 by_cases c1 : 65536 ≤ a; rotate_left
 ·by_cases c2 : 256 ≤ a
  ·have ht : a / 256 % 256 = a / 256 := by omega
   have hv := len8_ok (i := a / 256) (by omega) (by omega)
   refine ⟨8, a / 256, bt len8 (a / 256), ?_, hv, .inr (.inr (.inl ⟨rfl, rfl, by omega⟩))⟩
   unfold bits_Len32.f
   rw [if_neg c1, if_pos c2, if_pos (by omega), if_pos (by omega), ht]
   unfold Len8 at hv
   show some (wrap64 ((0 + 8) + wrap64 (bt len8 (a / 256)))) = _
   rw [d64 (n := bt len8 (a / 256)) (by omega) (by omega), d64 (by omega) (by omega)]
   rfl
  ·have ht : a % 256 = a := by omega
   have hv := len8_ok (i := a) (by omega) (by omega)
   refine ⟨0, a, bt len8 a, ?_, hv, .inr (.inr (.inr ⟨rfl, rfl, by omega⟩))⟩
   unfold bits_Len32.f
   rw [if_neg c1, if_neg c2, if_pos (by omega), if_pos (by omega), ht]
   unfold Len8 at hv
   show some (wrap64 (0 + wrap64 (bt len8 a))) = _
   rw [d64 (n := bt len8 a) (by omega) (by omega), d64 (by omega) (by omega)]
 by_cases c2 : 256 ≤ a / 65536
 ·have ht : a / 65536 / 256 % 256 = a / 16777216 := by omega
  have hv := len8_ok (i := a / 16777216) (by omega) (by omega)
  refine ⟨24, a / 16777216, bt len8 (a / 16777216), ?_, hv, .inl ⟨rfl, rfl⟩⟩
  unfold bits_Len32.f
  rw [if_pos c1, if_pos c2, if_pos (by omega), if_pos (by omega), ht]
  unfold Len8 at hv
  show some (wrap64 ((16 + 8) + wrap64 (bt len8 (a / 16777216)))) = _
  rw [d64 (n := bt len8 (a / 16777216)) (by omega) (by omega), d64 (by omega) (by omega)]
  rfl
 ·have ht : a / 65536 % 256 = a / 65536 := by omega
  have hv := len8_ok (i := a / 65536) (by omega) (by omega)
  refine ⟨16, a / 65536, bt len8 (a / 65536), ?_, hv, .inr (.inl ⟨rfl, rfl, by omega⟩)⟩
  unfold bits_Len32.f
  rw [if_pos c1, if_neg c2, if_pos (by omega), if_pos (by omega), ht]
  unfold Len8 at hv
  show some (wrap64 (16 + wrap64 (bt len8 (a / 65536)))) = _
  rw [d64 (n := bt len8 (a / 65536)) (by omega) (by omega), d64 (by omega) (by omega)]
theorem lz_at {a : Int} (h0 : 0 < a) (h1 : a < 4294967296) : ∃ n : Nat, n < 32 ∧ bits_LeadingZeros32.f a = some (n : Int) ∧ 2147483648 ≤ a * 2 ^ n ∧ a * 2 ^ n < 4294967296 := by
 obtain ⟨s, t, v, hf, hv, hs⟩ := len32 h0 h1
 have key : ∀ n : Nat, n < 32 → s + v = 32 - (n : Int) → 2147483648 ≤ a * 2 ^ n → a * 2 ^ n < 4294967296 → ∃ n : Nat, n < 32 ∧ bits_LeadingZeros32.f a = some (n : Int) ∧ 2147483648 ≤ a * 2 ^ n ∧ a * 2 ^ n < 4294967296 := by
  intro n hn he h2 h3
  refine ⟨n, hn, ?_, h2, h3⟩
  clear h2 h3
  unfold bits_LeadingZeros32.f
  rw [hf, Option.bind_some, he, d64 (by omega) (by omega)]
  congr 1
  omega
 unfold Len8 at hv
 clear hf
 by_cases g0 : s + v = 32 - 0
 ·exact key 0 (by decide) g0 (by omega) (by omega)
 by_cases g1 : s + v = 32 - 1
 ·exact key 1 (by decide) g1 (by omega) (by omega)
 by_cases g2 : s + v = 32 - 2
 ·exact key 2 (by decide) g2 (by omega) (by omega)
 by_cases g3 : s + v = 32 - 3
 ·exact key 3 (by decide) g3 (by omega) (by omega)
 by_cases g4 : s + v = 32 - 4
 ·exact key 4 (by decide) g4 (by omega) (by omega)
 by_cases g5 : s + v = 32 - 5
 ·exact key 5 (by decide) g5 (by omega) (by omega)
 by_cases g6 : s + v = 32 - 6
 ·exact key 6 (by decide) g6 (by omega) (by omega)
 by_cases g7 : s + v = 32 - 7
 ·exact key 7 (by decide) g7 (by omega) (by omega)
 by_cases g8 : s + v = 32 - 8
 ·exact key 8 (by decide) g8 (by omega) (by omega)
 by_cases g9 : s + v = 32 - 9
 ·exact key 9 (by decide) g9 (by omega) (by omega)
 by_cases g10 : s + v = 32 - 10
 ·exact key 10 (by decide) g10 (by omega) (by omega)
 by_cases g11 : s + v = 32 - 11
 ·exact key 11 (by decide) g11 (by omega) (by omega)
 by_cases g12 : s + v = 32 - 12
 ·exact key 12 (by decide) g12 (by omega) (by omega)
 by_cases g13 : s + v = 32 - 13
 ·exact key 13 (by decide) g13 (by omega) (by omega)
 by_cases g14 : s + v = 32 - 14
 ·exact key 14 (by decide) g14 (by omega) (by omega)
 by_cases g15 : s + v = 32 - 15
 ·exact key 15 (by decide) g15 (by omega) (by omega)
 by_cases g16 : s + v = 32 - 16
 ·exact key 16 (by decide) g16 (by omega) (by omega)
 by_cases g17 : s + v = 32 - 17
 ·exact key 17 (by decide) g17 (by omega) (by omega)
 by_cases g18 : s + v = 32 - 18
 ·exact key 18 (by decide) g18 (by omega) (by omega)
 by_cases g19 : s + v = 32 - 19
 ·exact key 19 (by decide) g19 (by omega) (by omega)
 by_cases g20 : s + v = 32 - 20
 ·exact key 20 (by decide) g20 (by omega) (by omega)
 by_cases g21 : s + v = 32 - 21
 ·exact key 21 (by decide) g21 (by omega) (by omega)
 by_cases g22 : s + v = 32 - 22
 ·exact key 22 (by decide) g22 (by omega) (by omega)
 by_cases g23 : s + v = 32 - 23
 ·exact key 23 (by decide) g23 (by omega) (by omega)
 by_cases g24 : s + v = 32 - 24
 ·exact key 24 (by decide) g24 (by omega) (by omega)
 by_cases g25 : s + v = 32 - 25
 ·exact key 25 (by decide) g25 (by omega) (by omega)
 by_cases g26 : s + v = 32 - 26
 ·exact key 26 (by decide) g26 (by omega) (by omega)
 by_cases g27 : s + v = 32 - 27
 ·exact key 27 (by decide) g27 (by omega) (by omega)
 by_cases g28 : s + v = 32 - 28
 ·exact key 28 (by decide) g28 (by omega) (by omega)
 by_cases g29 : s + v = 32 - 29
 ·exact key 29 (by decide) g29 (by omega) (by omega)
 by_cases g30 : s + v = 32 - 30
 ·exact key 30 (by decide) g30 (by omega) (by omega)
 by_cases g31 : s + v = 32 - 31
 ·exact key 31 (by decide) g31 (by omega) (by omega)
 omega
theorem len32_at {a : Int} (h0 : 0 < a) (h1 : a < 4294967296) : ∃ m : Int, bits_Len32.f a = some m ∧ 1 ≤ m ∧ m ≤ 32 := by
 obtain ⟨s, t, v, hf, hv, hs⟩ := len32 h0 h1
 unfold Len8 at hv
 exact ⟨s + v, hf, by omega, by omega⟩
end Go.Proofs.YtbkknoipgmlcmaaGreatDoor.P

