import Derived.Test.YtbkknoipgmlcmaaGreatDoorQCM26
set_option linter.unusedVariables false
set_option linter.unusedSimpArgs false
set_option maxHeartbeats 8000000
set_option maxRecDepth 100000
namespace Go.Proofs.YtbkknoipgmlcmaaGreatDoor.P
open Go.RowKit Go.Proofs.YtbkknoipgmlcmaaGreatDoorW.PrintWords Go.Proofs.YtbkknoipgmlcmaaGreatDoorW.PrintLast Go.Proofs.YtbkknoipgmlcmaaGreatDoorW.PrintMore
open Go.Proofs.FX
attribute [local go_sem] Instr.index
def okR (slots room n : Int) : Bool := if n < 0 then false else if n > wrap64 (slots - room) then false else true
def okT (l : List S50) (a1 ia u n : Int) : Option Bool :=
 if u = 1 then some (okR (rd_T50 l a1).f3 1 n) else if u = 6 then some (okR (rd_T50 l a1).f3 ((rd_T50 l a1).f2.length : Int) n)
 else if u = 4 then (if 0 ≤ ia then (if ia < (l.length : Int) then some (okR (rd_T50 l a1).f3 ((rd_T50 l ia).f1.length : Int) n) else none) else none)
 else if u = 5 then (if 0 ≤ ia then (if ia < (l.length : Int) then some (okR (rd_T50 l a1).f3 ((rd_T50 l ia).f2.length : Int) n) else none) else none)
 else if u = 2 then some (if n < 0 then false else if n ≥ ((rd_T50 l a1).f4.length : Int) then false else true)
 else if u = 7 then some (if n < 0 then false else if n ≥ a1 then false else true) else some true
theorem uk (u : Int) : (u = 1 ∧ (u == 1) = true ∧ (u == 6) = false ∧ (u == 4) = false ∧ (u == 5) = false ∧ (u == 2) = false ∧ (u == 7) = false) ∨ (u = 6 ∧ (u == 1) = false ∧ (u == 6) = true ∧ (u == 4) = false ∧ (u == 5) = false ∧ (u == 2) = false ∧ (u == 7) = false) ∨ (u = 4 ∧ (u == 1) = false ∧ (u == 6) = false ∧ (u == 4) = true ∧ (u == 5) = false ∧ (u == 2) = false ∧ (u == 7) = false) ∨ (u = 5 ∧ (u == 1) = false ∧ (u == 6) = false ∧ (u == 4) = false ∧ (u == 5) = true ∧ (u == 2) = false ∧ (u == 7) = false) ∨ (u = 2 ∧ (u == 1) = false ∧ (u == 6) = false ∧ (u == 4) = false ∧ (u == 5) = false ∧ (u == 2) = true ∧ (u == 7) = false) ∨ (u = 7 ∧ (u == 1) = false ∧ (u == 6) = false ∧ (u == 4) = false ∧ (u == 5) = false ∧ (u == 2) = false ∧ (u == 7) = true) ∨ ((u ≠ 1 ∧ u ≠ 6 ∧ u ≠ 4 ∧ u ≠ 5 ∧ u ≠ 2 ∧ u ≠ 7) ∧ (u == 1) = false ∧ (u == 6) = false ∧ (u == 4) = false ∧ (u == 5) = false ∧ (u == 2) = false ∧ (u == 7) = false) := by
 have hu_ : u = 1 ∨ u = 6 ∨ u = 4 ∨ u = 5 ∨ u = 2 ∨ u = 7 ∨ (u ≠ 1 ∧ u ≠ 6 ∧ u ≠ 4 ∧ u ≠ 5 ∧ u ≠ 2 ∧ u ≠ 7) := by omega
 rcases hu_ with rfl | rfl | rfl | rfl | rfl | rfl | h
 ·exact .inl (by decide)
 ·exact .inr (.inl (by decide))
 ·exact .inr (.inr (.inl (by decide)))
 ·exact .inr (.inr (.inr (.inl (by decide))))
 ·exact .inr (.inr (.inr (.inr (.inl (by decide)))))
 ·exact .inr (.inr (.inr (.inr (.inr (.inl (by decide))))))
 ·exact .inr (.inr (.inr (.inr (.inr (.inr ⟨h, beq_eq_false_iff_ne.2 h.1, beq_eq_false_iff_ne.2 h.2.1, beq_eq_false_iff_ne.2 h.2.2.1, beq_eq_false_iff_ne.2 h.2.2.2.1, beq_eq_false_iff_ne.2 h.2.2.2.2.1, beq_eq_false_iff_ne.2 h.2.2.2.2.2⟩)))))
def T3 (o : Option Bool) (n : Int) (c : Bool) : Prop := (decide (n < 0) = true ∧ True ∧ o = some false) ∨ (decide (n < 0) = false ∧ c = true ∧ o = some false) ∨ (decide (n < 0) = false ∧ c = false ∧ o = some true)
theorem t3_of (n : Int) (c : Prop) [Decidable c] : T3 (some (if n < 0 then false else if c then false else true)) n (decide c) := by
 unfold T3
 by_cases h : n < 0
 ·exact .inl ⟨dT h, trivial, by rw [if_pos h]⟩
 ·by_cases hc : c
  ·exact .inr (.inl ⟨dF h, dT hc, by rw [if_neg h, if_pos hc]⟩)
  ·exact .inr (.inr ⟨dF h, dF hc, by rw [if_neg h, if_neg hc]⟩)
theorem okT_1 (l : List S50) (a1 ia u n : Int) (h : u = 1) : T3 (okT l a1 ia u n) n (decide (n > wrap64 ((rd_T50 l a1).f3 - 1))) := by subst h; exact t3_of n _
theorem okT_6 (l : List S50) (a1 ia u n : Int) (h : u = 6) : T3 (okT l a1 ia u n) n (decide (n > wrap64 ((rd_T50 l a1).f3 - ((rd_T50 l a1).f2.length : Int)))) := by subst h; exact t3_of n _
theorem okT_4 (l : List S50) (a1 ia u n : Int) (h : u = 4) (h0 : 0 ≤ ia) (h1 : ia < (l.length : Int)) : T3 (okT l a1 ia u n) n (decide (n > wrap64 ((rd_T50 l a1).f3 - ((rd_T50 l ia).f1.length : Int)))) := by
 subst h
 have e : okT l a1 ia 4 n = some (okR (rd_T50 l a1).f3 ((rd_T50 l ia).f1.length : Int) n) := by unfold okT; rw [if_neg (by decide), if_neg (by decide), if_pos rfl, if_pos h0, if_pos h1]
 rw [e]; exact t3_of n _
theorem okT_5 (l : List S50) (a1 ia u n : Int) (h : u = 5) (h0 : 0 ≤ ia) (h1 : ia < (l.length : Int)) : T3 (okT l a1 ia u n) n (decide (n > wrap64 ((rd_T50 l a1).f3 - ((rd_T50 l ia).f2.length : Int)))) := by
 subst h
 have e : okT l a1 ia 5 n = some (okR (rd_T50 l a1).f3 ((rd_T50 l ia).f2.length : Int) n) := by unfold okT; rw [if_neg (by decide), if_neg (by decide), if_neg (by decide), if_pos rfl, if_pos h0, if_pos h1]
 rw [e]; exact t3_of n _
theorem okT_2 (l : List S50) (a1 ia u n : Int) (h : u = 2) : T3 (okT l a1 ia u n) n (decide (n ≥ ((rd_T50 l a1).f4.length : Int))) := by subst h; exact t3_of n _
theorem okT_7 (l : List S50) (a1 ia u n : Int) (h : u = 7) : T3 (okT l a1 ia u n) n (decide (n ≥ a1)) := by subst h; exact t3_of n _
theorem okT_0 (l : List S50) (a1 ia u n : Int) (h : u ≠ 1 ∧ u ≠ 6 ∧ u ≠ 4 ∧ u ≠ 5 ∧ u ≠ 2 ∧ u ≠ 7) : okT l a1 ia u n = some true := by
 unfold okT
 rw [if_neg h.1, if_neg h.2.1, if_neg h.2.2.1, if_neg h.2.2.2.1, if_neg h.2.2.2.2.1, if_neg h.2.2.2.2.2]
theorem okT_out (l : List S50) (a1 ia u n : Int) (h : u = 4 ∨ u = 5) (hi : ¬ (0 ≤ ia ∧ ia < (l.length : Int))) : okT l a1 ia u n = none := by
 rcases h with rfl | rfl <;> unfold okT
 ·rw [if_neg (by decide), if_neg (by decide), if_pos rfl]
  by_cases h0 : 0 ≤ ia
  ·rw [if_pos h0, if_neg (fun h => hi ⟨h0, h⟩)]
  ·rw [if_neg h0]
 ·rw [if_neg (by decide), if_neg (by decide), if_neg (by decide), if_pos rfl]
  by_cases h0 : 0 ≤ ia
  ·rw [if_pos h0, if_neg (fun h => hi ⟨h0, h⟩)]
  ·rw [if_neg h0]
def thF (l : List S50) (a1 i1 i2 i3 s1 s2 s3 : Int) : Nat → Option Bool
 | 0 => (okT l a1 i1 s1 i1).bind fun t => if t = true then ((okT l a1 i1 s2 i2).bind fun t => if t = true then ((okT l a1 i1 s3 i3).bind fun t => if t = true then some true else some false) else some false) else some false
 | 1 => (okT l a1 i1 s2 i2).bind fun t => if t = true then ((okT l a1 i1 s3 i3).bind fun t => if t = true then some true else some false) else some false
 | 2 => (okT l a1 i1 s3 i3).bind fun t => if t = true then some true else some false
 | _ => some true
def code_there.f (l : List S50) (a1 i0 i1 i2 i3 i4 : Int) (i5 : Bool) (i6 i7 : List Int) (s0 : ByteArray) (s1 s2 s3 : Int) (s4 : Bool) (s5 s6 : Int) : Option Bool :=
 if 0 ≤ a1 ∧ a1 < (l.length : Int) then thF l a1 i1 i2 i3 s1 s2 s3 0 else none
theorem code_there.calls (A0 : Option Addr) (c0 : Nat) (l0 : List S50) (a1 i0 i1 i2 i3 i4 : Int) (i5 : Bool) (A6 : Option Addr) (c6 : Nat) (i6 : List Int) (A7 : Option Addr) (c7 : Nat) (i7 : List Int) (s0 : ByteArray) (s1 s2 s3 : Int) (s4 : Bool) (s5 s6 : Int) (r : Bool) (w : World) (hG : GW w) (hr0 : Kd.C k50 w A0 l0.length l0) (hc0 : l0.length ≤ c0) (hr6 : Kd.C (Kd.int .u32) w A6 i6.length i6) (hc6 : i6.length ≤ c6) (hr7 : Kd.C (Kd.int .u32) w A7 i7.length i7) (hc7 : i7.length ≤ c7) (h : code_there.f l0 a1 i0 i1 i2 i3 i4 i5 i6 i7 s0 s1 s2 s3 s4 s5 s6 = some r) :
 Calls Tryz.prog 94 #[.slice A0 l0.length c0, .int .i64 a1, .agg #[.int .i64 i0, .int .i64 i1, .int .i64 i2, .int .i64 i3, .int .i64 i4, .bool i5, .slice A6 i6.length c6, .slice A7 i7.length c7], .agg #[.string s0, .int .i64 s1, .int .i64 s2, .int .i64 s3, .bool s4, .int .i64 s5, .int .i64 s6]] w fun e w' => e = .returned (.bool r) ∧ Below w.heap.size w w' := by
 have hu63 := Tryz.underlying63
 have hu72 := Tryz.underlying72
 have hu50 := Tryz.underlying50
 have hu75 := Tryz.underlying75
 have hu78 := Tryz.underlying78
 have hu77 := Tryz.underlying77
 have hu70 := Tryz.underlying70
 unfold code_there.f at h
 by_cases hat : 0 ≤ a1 ∧ a1 < (l0.length : Int)
 case neg => rw [if_neg hat] at h; cases h
 rw [if_pos hat] at h
 have hR := aS h
 have HB := aS (Below.refl w.heap.size w)
 have HR0 := aS hr0
 have HC0 := aS hc0
 obtain ⟨ad, _, _, _, _, _, _, eA, _, _, _, _, _, _, _, _, _, _, _⟩ := at_T50 hr0 a1 hat.1 hat.2
 subst eA
 have pa := aS hat.1; have qa := aS hat.2
 have fa1 : (0 ≤ a1) = True := eq_true hat.1; have fa2 : (a1 < (l0.length : Int)) = True := eq_true hat.2
 clear hr0 hc0 hr6 hr7 hc6 hc7 hG h hat
 go_enter Tryz.func94, Tryz.ntmps94
 go_wp2_with (first | ((with_reducible refine gate_dst (N := 6) rfl ?_); refine box_event ?hg (N := 6) ?hd (cs := #[.int .i64 i0, .int .i64 i1, .int .i64 i2, .int .i64 i3, .int .i64 i4, .bool i5, .slice A6 i6.length c6, .slice A7 i7.length c7]) (t := 63) ?hr ?_; (case hd => rfl); (case hg => rfl); (case hr => first | (go_simp; done) | (go_simp; rfl)); intro gi hg w6 hbox hb; have BKi := aS hbox; replace HB := aS (bs_ HB.out hb); clear hg hb hbox) | ((with_reducible refine gate_dst (N := 7) rfl ?_); refine box_event ?hg (N := 7) ?hd (cs := #[.string s0, .int .i64 s1, .int .i64 s2, .int .i64 s3, .bool s4, .int .i64 s5, .int .i64 s6]) (t := 72) ?hr ?_; (case hd => rfl); (case hg => rfl); (case hr => first | (go_simp; done) | (go_simp; rfl)); intro gs hg w7 hbox hb; have BKs := aS hbox; replace HB := aS (bs_ HB.out hb); replace BKi := aS (blk_below BKi.out hb); clear hg hb hbox; obtain ⟨ys0, ys1, ys2, ys3, ys4, ys5, ys6⟩ := cells7a BKs.out; obtain ⟨adr, R1, k1, R2, k2, R4, k4, er, hxr0, hxr1, hxr2, hxr3, hxr4, _, _, _, _, _, _⟩ := at_T50 (Kd.C_below HR0.out HB.out) a1 pa.out qa.out; obtain rfl : ad = adr := (by injection er)) | (go_at_call 42; refine (uses_calls _ _ _ _ _ _ _ _).mono ?_; rintro e w5 ⟨rfl, hb⟩; have BKr := aS (blk_below (blk_new _ _) hb); replace HB := aS (bs_ (below_alloc HB.out _) hb); replace BKi := aS (blk_below (blk_alloc BKi.out _) hb); clear BKs hb ys0 ys1 ys2 ys3 ys4 ys5 ys6 hxr0 hxr1 hxr2 hxr3 hxr4; (try clear xi0 xi1 xi2 xi3 xr0 xr1 xr2 xr3 xr4); obtain ⟨xi0, xi1, xi2, xi3, _, _, _, _⟩ := cells8 BKi.out; obtain ⟨xr0, xr1, xr2, xr3, xr4⟩ := cells5 BKr.out))
 go_loopg [20] 3 (fun kq v20 w' => ∃ j : Nat, v20 = .int .i64 (j : Int) ∧ Aside0 (kq + j = 3 ∧ thF l0 a1 i1 i2 i3 s1 s2 s3 j = some r) ∧ Aside0 (Below w.heap.size w w') ∧ Aside0 (w'.heap[gi]? = some (.cells #[.int .i64 i0, .int .i64 i1, .int .i64 i2, .int .i64 i3, .int .i64 i4, .bool i5, .slice A6 i6.length c6, .slice A7 i7.length c7] 63 (0, 0))) ∧ Aside0 (w'.heap[w7.heap.size]? = some (.cells #[.string (rd_T50 l0 a1).f0, .slice R1 (rd_T50 l0 a1).f1.length k1, .slice R2 (rd_T50 l0 a1).f2.length k2, .int .i64 (rd_T50 l0 a1).f3, .slice R4 (rd_T50 l0 a1).f4.length k4] 50 (0, 0))))
 case atStart => exact ⟨0, by first | rfl | (simp; done), ⟨rfl, hR.out⟩, HB, BKi, BKr⟩
 case round =>
  (try clear xi0 xi1 xi2 xi3 xr0 xr1 xr2 xr3 xr4)
  clear HB BKi BKr hR
  obtain ⟨j, rfl, hj, HB, BKi, BKr⟩ := hrel
  (try clear xi0 xi1 xi2 xi3 xr0 xr1 xr2 xr3 xr4); obtain ⟨xi0, xi1, xi2, xi3, _, _, _, _⟩ := cells8 BKi.out; obtain ⟨xr0, xr1, xr2, xr3, xr4⟩ := cells5 BKr.out
  cases gk with
  | zero =>
   obtain rfl : j = 3 := by have := hj.out.1; omega
   go_wp2
   go_ret
   (obtain rfl := sI hj.out.2; exact ⟨rfl, HB.out⟩)
  | succ k3 =>
   obtain ⟨u, n, hun⟩ : ∃ u n, (j = 0 ∧ s1 = u ∧ i1 = n) ∨ (j = 1 ∧ s2 = u ∧ i2 = n) ∨ (j = 2 ∧ s3 = u ∧ i3 = n) := by
    have h3 := hj.out.1
    have h4 : j = 0 ∨ j = 1 ∨ j = 2 := by omega
    rcases h4 with h4 | h4 | h4
    ·exact ⟨_, _, .inl ⟨h4, rfl, rfl⟩⟩
    ·exact ⟨_, _, .inr (.inl ⟨h4, rfl, rfl⟩)⟩
    ·exact ⟨_, _, .inr (.inr ⟨h4, rfl, rfl⟩)⟩
   have hst : ((okT l0 a1 i1 u n).bind fun t => if t = true then thF l0 a1 i1 i2 i3 s1 s2 s3 (j + 1) else some false) = some r := by
    rw [← hj.out.2]
    rcases hun with ⟨rfl, rfl, rfl⟩ | ⟨rfl, rfl, rfl⟩ | ⟨rfl, rfl, rfl⟩ <;> rfl
   have hk := aS hj.out.1
   clear hj
   have hia : (u = 4 ∨ u = 5) → 0 ≤ i1 ∧ i1 < (l0.length : Int) := fun hu => Classical.byContradiction fun hi => by
    rw [okT_out l0 a1 i1 u n hu hi] at hst
    cases hst
   rcases uk u with ⟨hu, k1_, k6_, k4_, k5_, k2_, k7_⟩ | ⟨hu, k1_, k6_, k4_, k5_, k2_, k7_⟩ | ⟨hu, k1_, k6_, k4_, k5_, k2_, k7_⟩ | ⟨hu, k1_, k6_, k4_, k5_, k2_, k7_⟩ | ⟨hu, k1_, k6_, k4_, k5_, k2_, k7_⟩ | ⟨hu, k1_, k6_, k4_, k5_, k2_, k7_⟩ | ⟨hu, k1_, k6_, k4_, k5_, k2_, k7_⟩
   case inl => (rcases okT_1 l0 a1 i1 u n hu with ⟨kb, kc, hok⟩ | ⟨kb, kc, hok⟩ | ⟨kb, kc, hok⟩ <;> (rw [hok] at hst; clear hok hia hu; (replace hst := aS hst; (first | have q1_ := eqT k1_ | have q1_ := eqF k1_); (first | have q6_ := eqT k6_ | have q6_ := eqF k6_); (first | have q4_ := eqT k4_ | have q4_ := eqF k4_); (first | have q5_ := eqT k5_ | have q5_ := eqF k5_); (first | have q2_ := eqT k2_ | have q2_ := eqF k2_); (first | have q7_ := eqT k7_ | have q7_ := eqF k7_); rcases hun with ⟨rfl, rfl, rfl⟩ | ⟨rfl, rfl, rfl⟩ | ⟨rfl, rfl, rfl⟩ <;> (go_wp2_with (go_at_call 43; refine (fields_calls gi _).mono ?_; rintro e w6 ⟨rfl, hb⟩; replace HB := aS (bs_ HB.out hb); replace BKi := aS (blk_below BKi.out hb); replace BKr := aS (blk_below BKr.out hb); clear hb; (try clear xi0 xi1 xi2 xi3 xr0 xr1 xr2 xr3 xr4); obtain ⟨xi0, xi1, xi2, xi3, _, _, _, _⟩ := cells8 BKi.out; obtain ⟨xr0, xr1, xr2, xr3, xr4⟩ := cells5 BKr.out)) <;> first | (go_ret; obtain rfl := sI hst.out; exact ⟨rfl, HB.out⟩) | (go_roundg k3; (case measure => omega); (case rel => first | exact ⟨1, by first | rfl | (simp; done), ⟨by have := hk.out; omega, hst.out⟩, HB, BKi, BKr⟩ | exact ⟨2, by first | rfl | (simp; done), ⟨by have := hk.out; omega, hst.out⟩, HB, BKi, BKr⟩ | exact ⟨3, by first | rfl | (simp; done), ⟨by have := hk.out; omega, hst.out⟩, HB, BKi, BKr⟩)))))
   case inr.inl => (rcases okT_6 l0 a1 i1 u n hu with ⟨kb, kc, hok⟩ | ⟨kb, kc, hok⟩ | ⟨kb, kc, hok⟩ <;> (rw [hok] at hst; clear hok hia hu; (replace hst := aS hst; (first | have q1_ := eqT k1_ | have q1_ := eqF k1_); (first | have q6_ := eqT k6_ | have q6_ := eqF k6_); (first | have q4_ := eqT k4_ | have q4_ := eqF k4_); (first | have q5_ := eqT k5_ | have q5_ := eqF k5_); (first | have q2_ := eqT k2_ | have q2_ := eqF k2_); (first | have q7_ := eqT k7_ | have q7_ := eqF k7_); rcases hun with ⟨rfl, rfl, rfl⟩ | ⟨rfl, rfl, rfl⟩ | ⟨rfl, rfl, rfl⟩ <;> (go_wp2_with (go_at_call 43; refine (fields_calls gi _).mono ?_; rintro e w6 ⟨rfl, hb⟩; replace HB := aS (bs_ HB.out hb); replace BKi := aS (blk_below BKi.out hb); replace BKr := aS (blk_below BKr.out hb); clear hb; (try clear xi0 xi1 xi2 xi3 xr0 xr1 xr2 xr3 xr4); obtain ⟨xi0, xi1, xi2, xi3, _, _, _, _⟩ := cells8 BKi.out; obtain ⟨xr0, xr1, xr2, xr3, xr4⟩ := cells5 BKr.out)) <;> first | (go_ret; obtain rfl := sI hst.out; exact ⟨rfl, HB.out⟩) | (go_roundg k3; (case measure => omega); (case rel => first | exact ⟨1, by first | rfl | (simp; done), ⟨by have := hk.out; omega, hst.out⟩, HB, BKi, BKr⟩ | exact ⟨2, by first | rfl | (simp; done), ⟨by have := hk.out; omega, hst.out⟩, HB, BKi, BKr⟩ | exact ⟨3, by first | rfl | (simp; done), ⟨by have := hk.out; omega, hst.out⟩, HB, BKi, BKr⟩)))))
   case inr.inr.inl => have pia := aS (hia (by omega)).1; have qia := aS (hia (by omega)).2; have fi1 : (0 ≤ i1) = True := eq_true pia.out; have fi2 : (i1 < (l0.length : Int)) = True := eq_true qia.out; (rcases okT_4 l0 a1 i1 u n hu pia.out qia.out with ⟨kb, kc, hok⟩ | ⟨kb, kc, hok⟩ | ⟨kb, kc, hok⟩ <;> (rw [hok] at hst; clear hok hia hu; (replace hst := aS hst; (first | have q1_ := eqT k1_ | have q1_ := eqF k1_); (first | have q6_ := eqT k6_ | have q6_ := eqF k6_); (first | have q4_ := eqT k4_ | have q4_ := eqF k4_); (first | have q5_ := eqT k5_ | have q5_ := eqF k5_); (first | have q2_ := eqT k2_ | have q2_ := eqF k2_); (first | have q7_ := eqT k7_ | have q7_ := eqF k7_); rcases hun with ⟨rfl, rfl, rfl⟩ | ⟨rfl, rfl, rfl⟩ | ⟨rfl, rfl, rfl⟩ <;> (go_wp2_with (go_at_call 43; refine (fields_calls gi _).mono ?_; rintro e w6 ⟨rfl, hb⟩; replace HB := aS (bs_ HB.out hb); replace BKi := aS (blk_below BKi.out hb); replace BKr := aS (blk_below BKr.out hb); clear hb; (try clear xi0 xi1 xi2 xi3 xr0 xr1 xr2 xr3 xr4); obtain ⟨xi0, xi1, xi2, xi3, _, _, _, _⟩ := cells8 BKi.out; obtain ⟨xr0, xr1, xr2, xr3, xr4⟩ := cells5 BKr.out; (obtain ⟨adq, Q1, qk1, Q2, qk2, Q4, qk4, eq, hxq0, hxq1, hxq2, hxq3, hxq4, _, _, _, _, _, _⟩ := at_T50 (Kd.C_below HR0.out HB.out) i1 pia.out qia.out; obtain rfl : ad = adq := (by injection eq)))) <;> first | (go_ret; obtain rfl := sI hst.out; exact ⟨rfl, HB.out⟩) | (go_roundg k3; (case measure => omega); (case rel => first | exact ⟨1, by first | rfl | (simp; done), ⟨by have := hk.out; omega, hst.out⟩, HB, BKi, BKr⟩ | exact ⟨2, by first | rfl | (simp; done), ⟨by have := hk.out; omega, hst.out⟩, HB, BKi, BKr⟩ | exact ⟨3, by first | rfl | (simp; done), ⟨by have := hk.out; omega, hst.out⟩, HB, BKi, BKr⟩)))))
   case inr.inr.inr.inl => have pia := aS (hia (by omega)).1; have qia := aS (hia (by omega)).2; have fi1 : (0 ≤ i1) = True := eq_true pia.out; have fi2 : (i1 < (l0.length : Int)) = True := eq_true qia.out; (rcases okT_5 l0 a1 i1 u n hu pia.out qia.out with ⟨kb, kc, hok⟩ | ⟨kb, kc, hok⟩ | ⟨kb, kc, hok⟩ <;> (rw [hok] at hst; clear hok hia hu; (replace hst := aS hst; (first | have q1_ := eqT k1_ | have q1_ := eqF k1_); (first | have q6_ := eqT k6_ | have q6_ := eqF k6_); (first | have q4_ := eqT k4_ | have q4_ := eqF k4_); (first | have q5_ := eqT k5_ | have q5_ := eqF k5_); (first | have q2_ := eqT k2_ | have q2_ := eqF k2_); (first | have q7_ := eqT k7_ | have q7_ := eqF k7_); rcases hun with ⟨rfl, rfl, rfl⟩ | ⟨rfl, rfl, rfl⟩ | ⟨rfl, rfl, rfl⟩ <;> (go_wp2_with (go_at_call 43; refine (fields_calls gi _).mono ?_; rintro e w6 ⟨rfl, hb⟩; replace HB := aS (bs_ HB.out hb); replace BKi := aS (blk_below BKi.out hb); replace BKr := aS (blk_below BKr.out hb); clear hb; (try clear xi0 xi1 xi2 xi3 xr0 xr1 xr2 xr3 xr4); obtain ⟨xi0, xi1, xi2, xi3, _, _, _, _⟩ := cells8 BKi.out; obtain ⟨xr0, xr1, xr2, xr3, xr4⟩ := cells5 BKr.out; (obtain ⟨adq, Q1, qk1, Q2, qk2, Q4, qk4, eq, hxq0, hxq1, hxq2, hxq3, hxq4, _, _, _, _, _, _⟩ := at_T50 (Kd.C_below HR0.out HB.out) i1 pia.out qia.out; obtain rfl : ad = adq := (by injection eq)))) <;> first | (go_ret; obtain rfl := sI hst.out; exact ⟨rfl, HB.out⟩) | (go_roundg k3; (case measure => omega); (case rel => first | exact ⟨1, by first | rfl | (simp; done), ⟨by have := hk.out; omega, hst.out⟩, HB, BKi, BKr⟩ | exact ⟨2, by first | rfl | (simp; done), ⟨by have := hk.out; omega, hst.out⟩, HB, BKi, BKr⟩ | exact ⟨3, by first | rfl | (simp; done), ⟨by have := hk.out; omega, hst.out⟩, HB, BKi, BKr⟩)))))
   case inr.inr.inr.inr.inl => (rcases okT_2 l0 a1 i1 u n hu with ⟨kb, kc, hok⟩ | ⟨kb, kc, hok⟩ | ⟨kb, kc, hok⟩ <;> (rw [hok] at hst; clear hok hia hu; (replace hst := aS hst; (first | have q1_ := eqT k1_ | have q1_ := eqF k1_); (first | have q6_ := eqT k6_ | have q6_ := eqF k6_); (first | have q4_ := eqT k4_ | have q4_ := eqF k4_); (first | have q5_ := eqT k5_ | have q5_ := eqF k5_); (first | have q2_ := eqT k2_ | have q2_ := eqF k2_); (first | have q7_ := eqT k7_ | have q7_ := eqF k7_); rcases hun with ⟨rfl, rfl, rfl⟩ | ⟨rfl, rfl, rfl⟩ | ⟨rfl, rfl, rfl⟩ <;> (go_wp2_with (go_at_call 43; refine (fields_calls gi _).mono ?_; rintro e w6 ⟨rfl, hb⟩; replace HB := aS (bs_ HB.out hb); replace BKi := aS (blk_below BKi.out hb); replace BKr := aS (blk_below BKr.out hb); clear hb; (try clear xi0 xi1 xi2 xi3 xr0 xr1 xr2 xr3 xr4); obtain ⟨xi0, xi1, xi2, xi3, _, _, _, _⟩ := cells8 BKi.out; obtain ⟨xr0, xr1, xr2, xr3, xr4⟩ := cells5 BKr.out)) <;> first | (go_ret; obtain rfl := sI hst.out; exact ⟨rfl, HB.out⟩) | (go_roundg k3; (case measure => omega); (case rel => first | exact ⟨1, by first | rfl | (simp; done), ⟨by have := hk.out; omega, hst.out⟩, HB, BKi, BKr⟩ | exact ⟨2, by first | rfl | (simp; done), ⟨by have := hk.out; omega, hst.out⟩, HB, BKi, BKr⟩ | exact ⟨3, by first | rfl | (simp; done), ⟨by have := hk.out; omega, hst.out⟩, HB, BKi, BKr⟩)))))
   case inr.inr.inr.inr.inr.inl => (rcases okT_7 l0 a1 i1 u n hu with ⟨kb, kc, hok⟩ | ⟨kb, kc, hok⟩ | ⟨kb, kc, hok⟩ <;> (rw [hok] at hst; clear hok hia hu; (replace hst := aS hst; (first | have q1_ := eqT k1_ | have q1_ := eqF k1_); (first | have q6_ := eqT k6_ | have q6_ := eqF k6_); (first | have q4_ := eqT k4_ | have q4_ := eqF k4_); (first | have q5_ := eqT k5_ | have q5_ := eqF k5_); (first | have q2_ := eqT k2_ | have q2_ := eqF k2_); (first | have q7_ := eqT k7_ | have q7_ := eqF k7_); rcases hun with ⟨rfl, rfl, rfl⟩ | ⟨rfl, rfl, rfl⟩ | ⟨rfl, rfl, rfl⟩ <;> (go_wp2_with (go_at_call 43; refine (fields_calls gi _).mono ?_; rintro e w6 ⟨rfl, hb⟩; replace HB := aS (bs_ HB.out hb); replace BKi := aS (blk_below BKi.out hb); replace BKr := aS (blk_below BKr.out hb); clear hb; (try clear xi0 xi1 xi2 xi3 xr0 xr1 xr2 xr3 xr4); obtain ⟨xi0, xi1, xi2, xi3, _, _, _, _⟩ := cells8 BKi.out; obtain ⟨xr0, xr1, xr2, xr3, xr4⟩ := cells5 BKr.out)) <;> first | (go_ret; obtain rfl := sI hst.out; exact ⟨rfl, HB.out⟩) | (go_roundg k3; (case measure => omega); (case rel => first | exact ⟨1, by first | rfl | (simp; done), ⟨by have := hk.out; omega, hst.out⟩, HB, BKi, BKr⟩ | exact ⟨2, by first | rfl | (simp; done), ⟨by have := hk.out; omega, hst.out⟩, HB, BKi, BKr⟩ | exact ⟨3, by first | rfl | (simp; done), ⟨by have := hk.out; omega, hst.out⟩, HB, BKi, BKr⟩)))))
   case inr.inr.inr.inr.inr.inr => (rw [okT_0 l0 a1 i1 u n hu] at hst; have kb : True := trivial; have kc : True := trivial; clear hia hu; (replace hst := aS hst; (first | have q1_ := eqT k1_ | have q1_ := eqF k1_); (first | have q6_ := eqT k6_ | have q6_ := eqF k6_); (first | have q4_ := eqT k4_ | have q4_ := eqF k4_); (first | have q5_ := eqT k5_ | have q5_ := eqF k5_); (first | have q2_ := eqT k2_ | have q2_ := eqF k2_); (first | have q7_ := eqT k7_ | have q7_ := eqF k7_); rcases hun with ⟨rfl, rfl, rfl⟩ | ⟨rfl, rfl, rfl⟩ | ⟨rfl, rfl, rfl⟩ <;> (go_wp2_with (go_at_call 43; refine (fields_calls gi _).mono ?_; rintro e w6 ⟨rfl, hb⟩; replace HB := aS (bs_ HB.out hb); replace BKi := aS (blk_below BKi.out hb); replace BKr := aS (blk_below BKr.out hb); clear hb; (try clear xi0 xi1 xi2 xi3 xr0 xr1 xr2 xr3 xr4); obtain ⟨xi0, xi1, xi2, xi3, _, _, _, _⟩ := cells8 BKi.out; obtain ⟨xr0, xr1, xr2, xr3, xr4⟩ := cells5 BKr.out)) <;> first | (go_ret; obtain rfl := sI hst.out; exact ⟨rfl, HB.out⟩) | (go_roundg k3; (case measure => omega); (case rel => first | exact ⟨1, by first | rfl | (simp; done), ⟨by have := hk.out; omega, hst.out⟩, HB, BKi, BKr⟩ | exact ⟨2, by first | rfl | (simp; done), ⟨by have := hk.out; omega, hst.out⟩, HB, BKi, BKr⟩ | exact ⟨3, by first | rfl | (simp; done), ⟨by have := hk.out; omega, hst.out⟩, HB, BKi, BKr⟩))))
end Go.Proofs.YtbkknoipgmlcmaaGreatDoor.P

