import Derived.Laws.Entries
import Derived.Test.YtbkknoipgmlcmaaGreatDoorQGM1
set_option linter.all false
namespace Go.Proofs.PM
open Go.RowKit Go.Proofs.PW
namespace Kd
open Go.Proofs.PW.Kd
theorem zcb {α : Type} {d : Kd α} {e base n cap : Nat} {ok : Nat → Prop} {W : World} {ad : Addr} {xs : List α} (h : d.R e W base ok (.slice (some ad) n cap) xs) (z : α) (i : Int) (h0 : 0 ≤ i) (h1 : i < n) :
 ∃ c, c.length = d.sz ∧ d.M W base (fun k => ok k ∧ some k ≠ (Value.slice (some ad) n cap).ownBlock) (xs.getD i.toNat z) c ∧ ∀ j u, c[j]? = some u → W.cell? (ad.add (i.toNat * d.sz + j)) = some u := by
 obtain ⟨g, hg⟩ : ∃ g, ad = ⟨g, 0, none⟩ := by
  obtain ⟨_, inner, ho, _⟩ := h
  rcases ho.2 with ⟨hv, _⟩ | ⟨g, cap', cur, hv, _⟩
  ·cases hv
  ·injection hv with ha _ _
   injection ha with ha
   exact ⟨g, ha⟩
 subst hg
 obtain ⟨c, hcl, hM, hcc, _⟩ := zcB h z i h0 h1
 refine ⟨c, hcl, d.M_mono (fun k hk => ⟨hk.1, fun he => hk.2 ?_⟩) hM, fun j u hu => ?_⟩
 ·rw [z2a, Nat.zero_add]
  exact hcc j u hu
 ·simpa [Value.ownBlock] using he
end Kd
namespace Kd
open Go.Proofs.PW.Kd
section
variable {α : Type} {d : Kd α} {e base g N : Nat} {ok : Nat → Prop} {W w1 : World} {u v : Value} {xs : List α}
theorem zdj (hu : d.R e W base ok u xs) (hb : Below W.heap.size W w1) : d.R e w1 base (fun k => ok k ∧ k < W.heap.size) u xs :=
 zw (zU (z09 hu) hb) (fun _ h => ⟨h.1, h.2.2.1⟩)
theorem z9O (h : d.R e w1 base (fun k => ok k ∧ k < N) u xs) (hbase : ∀ k, v.ownBlock = some k → N ≤ k) : d.R e w1 base (fun k => (ok k ∧ some k ≠ v.ownBlock) ∧ k < N) u xs :=
 zw h (fun k hk => ⟨⟨hk.1, fun e => Nat.lt_irrefl _ (Nat.lt_of_lt_of_le hk.2 (hbase k e.symm))⟩, hk.2⟩)
end
end Kd
theorem xf (k k' : IntKind) (x y : Int) : Builtin.max2 (.int k x) (.int k' y) = pure (.int k (if x < y then y else x)) := by simp only [Builtin.max2, gt_iff_lt]
theorem xg (k k' : IntKind) (x y : Int) : Builtin.min2 (.int k x) (.int k' y) = pure (.int k (if y < x then y else x)) := by simp only [Builtin.min2]
theorem xD (ats : Array TypeId) (ty : TypeId) (a b : Value) : Builtin.max_ ats ty #[a, b] = (Builtin.max2 a b >>= fun s => pure s) := by simp only [Builtin.max_, List.foldlM_cons, List.foldlM_nil]
theorem xE (ats : Array TypeId) (ty : TypeId) (a b : Value) : Builtin.min_ ats ty #[a, b] = (Builtin.min2 a b >>= fun s => pure s) := by simp only [Builtin.min_, List.foldlM_cons, List.foldlM_nil]
theorem yI (ats : Array TypeId) (ty : TypeId) (a b c : Value) : Builtin.max_ ats ty #[a, b, c] = (Builtin.max2 a b >>= fun s => Builtin.max2 s c >>= fun s => pure s) := by simp only [Builtin.max_, List.foldlM_cons, List.foldlM_nil]
theorem yJ (ats : Array TypeId) (ty : TypeId) (a b c : Value) : Builtin.min_ ats ty #[a, b, c] = (Builtin.min2 a b >>= fun s => Builtin.min2 s c >>= fun s => pure s) := by simp only [Builtin.min_, List.foldlM_cons, List.foldlM_nil]
theorem xl (ats : Array TypeId) (ty : TypeId) (a b c d : Value) : Builtin.max_ ats ty #[a, b, c, d] = (Builtin.max2 a b >>= fun s => Builtin.max2 s c >>= fun s => Builtin.max2 s d >>= fun s => pure s) := by simp only [Builtin.max_, List.foldlM_cons, List.foldlM_nil]
theorem xm (ats : Array TypeId) (ty : TypeId) (a b c d : Value) : Builtin.min_ ats ty #[a, b, c, d] = (Builtin.min2 a b >>= fun s => Builtin.min2 s c >>= fun s => Builtin.min2 s d >>= fun s => pure s) := by simp only [Builtin.min_, List.foldlM_cons, List.foldlM_nil]
end Go.Proofs.PM
namespace Go.Proofs.PW
open Go.RowKit
section
variable {P : Program} {ops : Array Oper} {rest : List Oper} {o : Oper} {a : Act} {Q : Exit → Act → World → Prop} {W : World}
theorem zi {f : FuncId} {as : Array Operand} {ts : Array TypeId} (_ho : o.op = .call { callee := .value (.func f), args := as, argTypes := ts }) (h : wpList P ops Q (o :: rest) a W) : wpList P ops Q (o :: rest) a W := h
theorem yV {b : Builtin} {xs : Array Operand} {ts : Array TypeId} (_ho : o.op = .call { callee := .builtin b, args := xs, argTypes := ts }) (h : wpList P ops Q (o :: rest) a W) : wpList P ops Q (o :: rest) a W := h
end
def mx (a b : Int) : Int := if a < b then b else a
def mn (a b : Int) : Int := if b < a then b else a
def shl (k : IntKind) (x y : Int) : Int := k.wrap (x * 2 ^ min y.toNat k.bits)
def shr (k : IntKind) (x y : Int) : Int := x / 2 ^ min y.toNat k.bits
theorem z9u {k : IntKind} {x y j : Int} (h : shl k x y = j) (hy : y ≤ k.bits) : k.wrap (x * 2 ^ y.toNat) = j := by rw [← h]; unfold shl; rw [Nat.min_eq_left (by omega)]
theorem z5U {k : IntKind} {x y j : Int} (h : shr k x y = j) (hy : y ≤ k.bits) : x / 2 ^ y.toNat = j := by rw [← h]; unfold shr; rw [Nat.min_eq_left (by omega)]
theorem z3k (w : World) (n : Nat) : w.drewN n = w.drewN n := rfl
end Go.Proofs.PW
namespace Go.Proofs.PW
open Go.RowKit
namespace Kd
def V {α : Type} (d : Kd α) (_e : Nat) (W : World) (_base : Nat) (ok : Nat → Prop) (v : Value) (xs : List α) : Prop := ∃ A c, v = .slice A xs.length c ∧ xs.length ≤ c ∧ F d W ok A xs.length xs
section
variable {α β : Type} {d : Kd α} {e base base' n m c g N' lo hi : Nat} {ok ok' S : Nat → Prop} {w W w1 : World} {A : Option Addr} {ad : Addr} {u v v1 : Value} {xs : List α}
theorem z5s (h : V d e W base ok v xs) (hF : ∀ A, F d W ok A xs.length xs → F d w1 ok' A xs.length xs) : V d e w1 base' ok' v xs := by
 obtain ⟨A, c, hv, hl, hf⟩ := h
 exact ⟨A, c, hv, hl, hF A hf⟩
theorem z1a (hl : xs.length ≤ c) (hf : F d W ok A xs.length xs) : V d e W base ok (.slice A xs.length c) xs := ⟨A, c, rfl, hl, hf⟩
theorem xO (h : V d e W base ok v xs) : ∃ A c, v = .slice A xs.length c := by
 obtain ⟨A, c, hv, _⟩ := h
 exact ⟨A, c, hv⟩
theorem z9U (h : V d e W base ok (.slice A n c) xs) : n = xs.length ∧ n ≤ c ∧ F d W ok A xs.length xs := by
 obtain ⟨A', c', hv, hl, hf⟩ := h
 injection hv with ha hn hc
 subst ha; subst hc
 exact ⟨hn, by rw [hn]; exact hl, hf⟩
theorem zM (h : V d e W base ok (.slice A n c) xs) : n = xs.length ∧ n ≤ c ∧ d.C W A xs.length xs := ⟨(z9U h).1, (z9U h).2.1, z9D (z9U h).2.2⟩
theorem V_F (h : V d e W base ok (.slice A n c) xs) : F d W ok A n xs := by
 obtain ⟨hn, _, hf⟩ := z9U h
 rw [hn]
 exact hf
theorem z2w (d : Kd α) (e : Nat) (W : World) (base : Nat) (ok : Nat → Prop) : V d e W base ok (.slice none 0 0) [] := ⟨none, 0, rfl, Nat.le_refl _, z5r d W ok⟩
theorem R_V (h : d.R e W base ok v xs) : V d e W base' ok v xs := by
 obtain ⟨A, c, rfl⟩ := zB h
 exact ⟨A, c, rfl, (zz h).2.1, R_F h⟩
theorem xi (h : V d e W base ok v xs) (hok : ∀ k, ok k → ok' k) : V d e W base ok' v xs := z5s h (fun _ hf => z7i hf hok)
theorem z8i (h : V d e W base ok v xs) (_ : base' ≤ base) : V d e W base' ok v xs := h
theorem zbq (h : V d e W base ok v xs) (o : Obj) : V d e (W.alloc o) base ok v xs := z5s h (fun _ hf => zbh hf o)
theorem zcG (h : V d e W base ok v xs) : V d e W.drew base ok v xs := z5s h (fun _ hf => zcv hf)
theorem zbr (h : V d e W base ok v xs) (m : Nat) : V d e (W.drewN m) base ok v xs := z5s h (fun _ hf => zbj hf m)
theorem zbp (h : V d e W base (fun k => ok k ∧ some k ≠ u.ownBlock) v xs) (hg : W.grownBy w1 u.ownBlock) (hat : v1.ownBlock = u.ownBlock ∨ ∃ b, v1.ownBlock = some b ∧ W.heap.size ≤ b) : V d e w1 base (fun k => ok k ∧ some k ≠ v1.ownBlock) v xs := z5s h (fun _ hf => zbg hf hg hat)
theorem z2v (h : V d e W base (fun k => ok k ∧ some k ≠ v.ownBlock) u xs) (hg : W.grownBy w1 v.ownBlock) (hat : v1.ownBlock = v.ownBlock ∨ ∃ b, v1.ownBlock = some b ∧ W.heap.size ≤ b) : V d e w1 base (fun k => ok k ∧ some k ≠ v1.ownBlock) u xs := zbp h hg hat
theorem yy (h : V d e W base ok v xs) (hbase : ∀ k, u.ownBlock = some k → W.heap.size ≤ k) (hb : Below W.heap.size W w1) : V d e w1 base (fun k => ok k ∧ some k ≠ u.ownBlock) v xs := z5s h (fun _ hf => z9C hf hbase hb)
theorem zcx (h : F d W ok A xs.length xs) (hm : m ≤ xs.length) : F d W ok A (xs.take m).length (xs.take m) := zdi h (fun _ hC => z62 hC hm)
theorem z0B {l : List α} (hl : l.length ≤ c) (hf : F d W ok A l.length l) : FK (Kd.slice e d) W ok l [.slice A l.length c] := fun W' hW => ⟨A, c, rfl, hl, hf W' hW⟩
theorem z18 {M : Nat → Prop} (h : d.R e w1 W.heap.size ok v xs) (hle : w.heap.size ≤ W.heap.size) (hM : ∀ k, w.heap.size ≤ k → M k) : d.R e w1 W.heap.size (fun k => M k ∧ ok k) v xs := zw (z09 h) (fun k hk => ⟨hM k (Nat.le_trans hle hk.2.1), hk.1⟩)
end
end Kd
end Go.Proofs.PW

namespace Go.Proofs.PW
open Go.RowKit
section
variable {P : Program} {ops : Array Oper} {o : Oper} {a : Act} {Q : Exit → Act → World → Prop} {Kc : Act → World → Prop}
theorem z2n {w0 W : World} (base : Nat) (hw : Region.wanted o (yielded ops a.tmps) = true) (s x : Operand) (t u e : TypeId)
 (ho : o.op = .call { callee := .builtin .append, args := #[s, x], argTypes := #[t, u] })
 (ht : P.underlying t = some (.slice e)) (hu : P.underlying u = some .string) (hinfo : (P.info? e).map (fun i => (i.zero, i.size, i.bytes)) = some (some (.int .u8 0), 1, 1))
 (v : Value) (xs : List Int) (y : ByteArray) (hs : a.eval s = v) (hx : a.eval x = .string y)
 (HO : W.ownsRow base e 1 v xs.length (z5j .u8 xs)) (HB : Below base w0 W) (hbase : base ≤ W.heap.size) (hl : xs.length + y.size ≤ 140737488355328)
 (h : ∀ v1 w1, w1.ownsRow base e 1 v1 (xs ++ bytesOf y).length (z5j .u8 (xs ++ bytesOf y)) → Below base w0 w1 → W.grownBy w1 v.ownBlock → Kc (a.put o.dst v1) w1) :
 if Region.wanted o (yielded ops a.tmps) = true then Oper.wp P o a W Kc Q else Kc (a.put o.dst undef) W := by
 rw [if_pos hw]
 obtain ⟨i0, hi, hzz⟩ := Option.map_eq_some_iff.1 hinfo
 simp only [Prod.mk.injEq] at hzz
 obtain ⟨hz0, hz1, hz2⟩ := hzz
 obtain ⟨v1, w1, hr, hown, hg, _⟩ := Lib.run_append_own_string (P := P) W base t u o.type e i0 ht hu hi hz0 hz1 hz2 v xs.length (z5j .u8 xs) HO y (by simp only [maxLen]; omega) hl hbase
 have hl2 : (xs ++ bytesOf y).length = xs.length + y.size := by rw [List.length_append, z4G]
 have hc : z5j .u8 (xs ++ bytesOf y) = z5j .u8 xs ++ Lib.strCells y := by
  rw [z6Z]
  congr 1
  simp [z5j, bytesOf, Lib.strCells]
 have hk := h v1 w1 (by rw [hl2, hc]; exact hown) (HB.grown hg hbase (z1E HO)) hg
 unfold Oper.wp execOp
 simp only [ho, resolve, invoke, builtin, Sem.run_bind, Sem.run_pure, Result.andThen_ok, List.map_toArray, List.map_cons, List.map_nil, hs, hx, hr]
 exact hk
end
end Go.Proofs.PW

namespace Go.Proofs.PL
open Go.Proofs.PW (Aside0)
def z2V (md : Region.Mode) (o : Oper) : List Nat := (o.after.toList.filter (fun e => Region.binds md e)).map (fun e => e.on)
def z6e (md : Region.Mode) (ops : Array Oper) (i : Nat) (oi : Oper) : List Nat := (List.range ops.size).filter fun j => !(j == i) && match ops[j]? with
 | some oj => !(oj.after.any (fun e => Region.binds md e && e.on == i) || oi.apart ops oj)
 | none => false
def z06 (md : Region.Mode) (ops : Array Oper) : Bool × List (List Nat × List Nat) := (Region.noSelect ops, (List.range ops.size).map fun i => match ops[i]? with
 | some o => (z2V md o, z6e md ops i o)
 | none => ([], []))
def z1i (T : List (List Nat × List Nat)) (l : List Bool) (i : Nat) : Bool := !l.getD i true && match T[i]? with
 | some r => r.1.all (fun j => l.getD j false)
 | none => false
def z2I (T : List (List Nat × List Nat)) (l : List Bool) : List Nat := (List.range T.length).filter (z1i T l)
def z6N (T : List (List Nat × List Nat)) (l : List Bool) (i : Nat) : Bool := match T[i]? with
 | some r => r.2.all (fun j => l.getD j true)
 | none => false
def z4n (T : List (List Nat × List Nat)) (l : List Bool) : Bool := (List.range T.length).all fun j => !l.getD j false || match T[j]? with
 | some r => r.1.all (fun k => l.getD k false)
 | none => true
def z3R (T : List (List Nat × List Nat)) (i : Nat) : Nat → Nat → Bool
 | 0, _ => false
 | fuel + 1, d => match T[d]? with
  | some r => r.1.any fun j => j == i || z3R T i fuel j
  | none => false
def z8E (T : List (List Nat × List Nat)) (l : List Bool) (ds : List Nat) (i : Nat) : Bool := ds.all fun d => l.getD d true || z3R T i T.length d
section
variable {md : Region.Mode} {ops : Array Oper} {T : Bool × List (List Nat × List Nat)} {l l' li lj lk : Array Bool} {ds : List Nat} {i j k : Nat}
theorem gd (l : Array Bool) (j : Nat) (b : Bool) : l.getD j b = l.toList.getD j b := by simp [Array.getD_eq_getD_getElem?, List.getD_eq_getElem?_getD]
theorem z5F (o : Oper) (p : Nat → Bool) : o.after.all (fun e => !Region.binds md e || p e.on) = (z2V md o).all p := by
 unfold z2V
 rw [← Array.all_toList]
 induction o.after.toList with
 | nil => rfl
 | cons e r ih =>
  rw [List.all_cons, ih, List.filter_cons]
  cases h : Region.binds md e <;> simp
theorem z9g (o : Oper) (p : Nat → Bool) : o.after.any (fun e => Region.binds md e && p e.on) = (z2V md o).any p := by
 unfold z2V
 rw [← Array.any_toList]
 induction o.after.toList with
 | nil => rfl
 | cons e r ih =>
  rw [List.any_cons, ih, List.filter_cons]
  cases h : Region.binds md e <;> simp
theorem z1O : (z06 md ops).2.length = ops.size := by simp [z06]
theorem z2Y {o : Oper} (h : ops[i]? = some o) : (z06 md ops).2[i]? = some (z2V md o, z6e md ops i o) := by
 have hi := (Array.getElem?_eq_some_iff.1 h).1
 unfold z06
 rw [List.getElem?_map, List.getElem?_range hi, Option.map_some, h]
theorem z2X (h : ops[i]? = none) : (z06 md ops).2[i]? = none := by
 have hi : ops.size ≤ i := Array.getElem?_eq_none_iff.1 h
 exact List.getElem?_eq_none (by rw [z1O]; exact hi)
theorem z84 : z1i (z06 md ops).2 l.toList i = (!l.getD i true && ((ops[i]?).map (·.after.all fun e => !Region.binds md e || l.getD e.on false)).getD false) := by
 unfold z1i
 rw [gd]
 cases h : ops[i]? with
 | none => rw [z2X h]; rfl
 | some o =>
  rw [z2Y h]
  simp only [Option.map_some, Option.getD_some]
  rw [← z5F]
  simp only [gd]
theorem z1Y : Region.ready md ops l = z2I (z06 md ops).2 l.toList := by
 unfold Region.ready z2I
 rw [z1O]
 refine List.filter_congr (fun i _ => ?_)
 rw [z84]
theorem z8x : Region.free md ops l i = z6N (z06 md ops).2 l.toList i := by
 unfold Region.free z6N
 cases h : ops[i]? with
 | none => rw [z2X h]
 | some oi =>
  rw [z2Y h]
  simp only [z6e]
  rw [List.all_filter]
  congr 1
  funext j
  rw [gd]
  cases hj : ops[j]? with
  | none => cases (j == i) <;> cases (l.toList.getD j true) <;> simp
  | some oj =>
   cases (j == i) <;> cases (l.toList.getD j true) <;> cases (oj.after.any (fun e => Region.binds md e && e.on == i) || oi.apart ops oj) <;> simp_all
theorem z8X : Region.z3w md ops l = z4n (z06 md ops).2 l.toList := by
 unfold Region.z3w z4n
 rw [z1O]
 congr 1
 funext j
 rw [gd]
 cases h : ops[j]? with
 | none => rw [z2X h]
 | some o =>
  rw [z2Y h]
  simp only
  rw [← z5F]
  simp only [gd]
theorem z74 : ∀ (fuel d : Nat), Region.z1o md ops i fuel d = z3R (z06 md ops).2 i fuel d
 | 0, _ => rfl
 | fuel + 1, d => by
  unfold Region.z1o z3R
  cases h : ops[d]? with
  | none => rw [z2X h]
  | some o =>
   rw [z2Y h]
   simp only
   rw [← z9g]
   congr 1
   funext e
   rw [z74 fuel]
theorem zbO : Region.z8D md ops l ds i = z8E (z06 md ops).2 l.toList ds i := by
 unfold Region.z8D z8E
 rw [z1O]
 congr 1
 funext d
 rw [gd, z74]
theorem z48 (h : z1i T.2 l.toList i = true) (hT : z06 md ops = T) : (Region.ready md ops l).contains i = true := by
 subst hT
 rw [z1Y]
 unfold z2I
 rw [List.contains_iff_mem, List.mem_filter, List.mem_range]
 refine ⟨?_, h⟩
 unfold z1i at h
 rw [Bool.and_eq_true] at h
 cases hq : (z06 md ops).2[i]? with
 | none => rw [hq] at h; simp at h
 | some r => exact (List.getElem?_eq_some_iff.1 hq).1
theorem z4Z (h : (l.toList.set i true == l'.toList) = true) : (l.setIfInBounds i true == l') = true := by
 rw [beq_iff_eq] at h ⊢
 apply Array.ext'
 rw [Array.toList_setIfInBounds]
 exact h
def zcI (T : Bool × List (List Nat × List Nat)) (l l' : List Bool) (i : Nat) : Bool := T.1 && z6N T.2 l i && z1i T.2 l i && (l.set i true == l')
theorem zcJ (hT : z06 md ops = T) (h : zcI T l.toList l'.toList i = true) : z9Y md ops l l' i = true := by
 simp only [zcI, Bool.and_eq_true] at h
 obtain ⟨⟨⟨h1, h2⟩, h3⟩, h4⟩ := h
 have h5 := z48 h3 hT
 have h6 := z4Z h4
 subst hT
 simp only [z9Y, Bool.and_eq_true]
 exact ⟨⟨⟨h1, by rw [z8x]; exact h2⟩, h5⟩, h6⟩
def zb5 (T : Bool × List (List Nat × List Nat)) (ds : List Nat) (l l' : List Bool) (i : Nat) : Bool := T.1 && z6N T.2 l i && z1i T.2 l i && z4n T.2 l && z8E T.2 l ds i && (l.set i true == l')
theorem zc8 (hT : z06 md ops = T) (h : zb5 T ds l.toList l'.toList i = true) : z5X md ops ds l l' i = true := by
 simp only [zb5, Bool.and_eq_true] at h
 obtain ⟨⟨⟨⟨⟨h1, h2⟩, h3⟩, h4⟩, h5⟩, h6⟩ := h
 have h7 := z48 h3 hT
 have h8 := z4Z h6
 subst hT
 simp only [z5X, Bool.and_eq_true]
 exact ⟨⟨⟨⟨⟨h1, by rw [z8x]; exact h2⟩, h7⟩, by rw [z8X]; exact h4⟩, by rw [zbO]; exact h5⟩, h8⟩
theorem z0k (hT : z06 md ops = T) (h : (z2I T.2 l.toList == [i] && l.toList.set i true == l'.toList) = true) : z3S md ops l l' i = true := by
 simp only [Bool.and_eq_true] at h
 obtain ⟨h1, h2⟩ := h
 subst hT
 simp only [z3S, Bool.and_eq_true]
 exact ⟨by rw [z1Y]; exact h1, z4Z h2⟩
theorem zbb (hT : z06 md ops = T) (h : (z2I T.2 l.toList == [i, j] && l.toList.set i true == li.toList && l.toList.set j true == lj.toList) = true) : (Region.ready md ops l == [i, j] && l.setIfInBounds i true == li && l.setIfInBounds j true == lj) = true := by
 simp only [Bool.and_eq_true] at h ⊢
 obtain ⟨⟨h1, h2⟩, h3⟩ := h
 subst hT
 exact ⟨⟨by rw [z1Y]; exact h1, z4Z h2⟩, z4Z h3⟩
theorem z1L (hT : z06 md ops = T) (h : (z2I T.2 l.toList == []) = true) : (Region.ready md ops l == []) = true := by
 subst hT
 rw [z1Y]
 exact h
def upM (B : List Nat) (d : Nat) : List Nat → Nat
 | [] => 0
 | n :: r => (2 ^ n ||| (if n < d then B.getD n 0 else 0)) ||| upM B d r
def z0f (T : List (List Nat × List Nat)) (B : List Nat) : Bool := (List.range T.length).all fun d => match T[d]? with
 | some r => (B.getD d 0 ||| upM B d r.1) == upM B d r.1
 | none => false
theorem z2i {B : List Nat} {d i : Nat} : ∀ {ns : List Nat}, (upM B d ns).testBit i = true → ∃ n ∈ ns, n = i ∨ (n < d ∧ (B.getD n 0).testBit i = true)
 | [], h => by simp [upM] at h
 | n :: r, h => by
  unfold upM at h
  rw [Nat.testBit_or, Nat.testBit_or, Bool.or_eq_true, Bool.or_eq_true] at h
  rcases h with (h | h) | h
  ·rw [Nat.testBit_two_pow] at h
   exact ⟨n, List.mem_cons_self, .inl (by simpa using h)⟩
  ·by_cases hn : n < d
   ·rw [if_pos hn] at h
    exact ⟨n, List.mem_cons_self, .inr ⟨hn, h⟩⟩
   ·rw [if_neg hn] at h
    simp at h
  ·obtain ⟨m, hm, h2⟩ := z2i h
   exact ⟨m, List.mem_cons_of_mem _ hm, h2⟩
theorem z5O {T : List (List Nat × List Nat)} {B : List Nat} (hB : z0f T B = true) : ∀ (fuel d : Nat), d < fuel → d < T.length → (B.getD d 0).testBit i = true → z3R T i fuel d = true
 | 0, d, h, _, _ => by omega
 | fuel + 1, d, h, hd, hb => by
  have h1 := List.all_eq_true.1 hB d (List.mem_range.2 hd)
  cases hr : T[d]? with
  | none => rw [hr] at h1; simp at h1
  | some r =>
   rw [hr] at h1
   simp only [beq_iff_eq] at h1
   have h2 : (upM B d r.1).testBit i = true := by rw [← h1, Nat.testBit_or, hb, Bool.true_or]
   obtain ⟨n, hn, h3⟩ := z2i h2
   unfold z3R
   rw [hr]
   simp only
   rw [List.any_eq_true]
   refine ⟨n, hn, ?_⟩
   rcases h3 with rfl | ⟨h4, h5⟩
   ·simp
   ·rw [z5O hB fuel n (by omega) (by omega) h5, Bool.or_true]
def zck (T : List (List Nat × List Nat)) (B : List Nat) (l : List Bool) (ds : List Nat) (i : Nat) : Bool := ds.all fun d => l.getD d true || (decide (d < T.length) && (B.getD d 0).testBit i)
def zb6 (T : Bool × List (List Nat × List Nat)) (B : List Nat) (ds : List Nat) (l l' : List Bool) (i : Nat) : Bool := T.1 && z6N T.2 l i && z1i T.2 l i && z4n T.2 l && zck T.2 B l ds i && (l.set i true == l')
theorem zb8 {B : List Nat} (hT : z06 md ops = T) (hB : z0f T.2 B = true) (h : zb6 T B ds l.toList l'.toList i = true) : z5X md ops ds l l' i = true := by
 refine zc8 hT ?_
 simp only [zb6, zb5, Bool.and_eq_true] at h ⊢
 obtain ⟨⟨⟨⟨⟨h1, h2⟩, h3⟩, h4⟩, h5⟩, h6⟩ := h
 refine ⟨⟨⟨⟨⟨h1, h2⟩, h3⟩, h4⟩, ?_⟩, h6⟩
 unfold zck at h5
 unfold z8E
 rw [List.all_eq_true] at h5 ⊢
 intro d hd
 have h7 := h5 d hd
 rw [Bool.or_eq_true, Bool.and_eq_true, decide_eq_true_eq] at h7
 rcases h7 with h7 | ⟨h8, h9⟩
 ·rw [h7, Bool.true_or]
 ·rw [z5O hB _ d h8 h8 h9, Bool.or_true]
theorem z0K {P : Program} {Q : Exit → Act → World → Prop} {S : World → Prop} {n : Nat} {a : Act} {w : World} {B : List Nat} (hT : z06 md ops = T) (hB : z0f T.2 B = true) (h : Aside0 (z06 md ops = T) → Aside0 (z0f T.2 B = true) → zO P md ops Q S ds n l a w) : zO P md ops Q S ds n l a w := h ⟨hT⟩ ⟨hB⟩
end
def z38 : Code → Nat → Option (Array Oper)
 | .region id ops _, k => if id == k then some ops else none
 | .seq a b, k => match z38 a k with
  | some o => some o
  | none => z38 b k
 | .cond _ a b, k => match z38 a k with
  | some o => some o
  | none => z38 b k
 | .block _ c, k => z38 c k
 | .loop c, k => z38 c k
 | .scope c, k => z38 c k
 | .rangeFunc _ _ a b, k => match z38 a k with
  | some o => some o
  | none => z38 b k
 | _, _ => none
def opsOf (f : Func) (k : Nat) : Array Oper := ((f.body.bind fun c => z38 c k)).getD #[]
end Go.Proofs.PL

namespace Go.Proofs.FX
open Go.RowKit Go.Proofs.PW Go.Proofs.PL Go.Proofs.PM
theorem aS {p : Prop} (h : p) : Aside0 p := ⟨h⟩
theorem dT {p : Prop} [Decidable p] (h : p) : decide p = true := decide_eq_true h
theorem dF {p : Prop} [Decidable p] (h : ¬ p) : decide p = false := decide_eq_false h
theorem bT {α : Type} [BEq α] [LawfulBEq α] {a b : α} (h : a = b) : (a == b) = true := beq_iff_eq.mpr h
theorem nF {α : Type} [BEq α] [LawfulBEq α] {a b : α} (h : a = b) : (a != b) = false := bne_eq_false_iff_eq.mpr h
theorem bF {α : Type} [BEq α] [LawfulBEq α] {a b : α} (h : ¬ a = b) : (a == b) = false := beq_eq_false_iff_ne.mpr h
theorem nT {α : Type} [BEq α] [LawfulBEq α] {a b : α} (h : ¬ a = b) : (a != b) = true := bne_iff_ne.mpr h
theorem bS {α β : Type} {o : Option α} {f : α → Option β} {b : β} (h : o.bind f = some b) : ∃ a, o = some a ∧ f a = some b := Option.bind_eq_some_iff.mp h
theorem sI {α : Type} {a b : α} (h : some a = some b) : a = b := Option.some.inj h
theorem iN_ {p : Prop} [Decidable p] {α : Type} {a : Option α} {r : α} (h : (if p then a else none) = some r) : p ∧ a = some r := by
 by_cases c : p
 ·rw [if_pos c] at h; exact ⟨c, h⟩
 ·rw [if_neg c] at h; cases h
theorem iD_ {p : Prop} [Decidable p] {α : Type} {a : Option α} {r : α} (h : (if p then a else none) = some r) : decide p = true ∧ a = some r := ⟨decide_eq_true (iN_ h).1, (iN_ h).2⟩
theorem iE_ {p : Prop} [Decidable p] {α : Type} {a : Option α} {r : α} (h : (if p then a else none) = some r) : (p = True) ∧ decide p = true ∧ a = some r := ⟨eq_true (iN_ h).1, decide_eq_true (iN_ h).1, (iN_ h).2⟩
theorem bA {α β : Type} {o : Option α} {f : α → Option β} {b : β} (h : o.bind f = some b) : ∃ a, Aside0 (o = some a) ∧ f a = some b := by
 obtain ⟨a, h1, h2⟩ := Option.bind_eq_some_iff.mp h
 exact ⟨a, ⟨h1⟩, h2⟩
theorem iN : ¬ (false = true) := by decide
theorem bs_ {w W w2 : World} (h : Below w.heap.size w W) (k : Below W.heap.size W w2) : Below w.heap.size w w2 := z4F h k
theorem zbz {w : World} {g h i : Nat} {q : Option Nat} {o : Obj} (hw : w.heap[g]? = some o) (hn : Aside0 (g ≠ h)) (u : Value) : (w.setCell ⟨h, i, q⟩ u).heap[g]? = some o := (Below.heap_setCell w ⟨h, i, q⟩ u g hn.out).trans hw
theorem bj {w w0 : World} {g : Nat} {o : Obj} (h : Aside0 (w0.heap[g]? = some o)) (m : w0.heap[g]? = some o → w.heap[g]? = some o := by intro h_; repeat (first | with_reducible exact h_ | (with_reducible first | refine yW ?_ _ | refine yb ?_ | refine zZ ?_ _ | refine zbz ?_ (by assumption) _) | exact h_)) : w.heap[g]? = some o := m h.out
theorem bp {w w0 : World} {g : Nat} {o o0 : Obj} (h : Aside0 (w0.heap[g]? = some o0)) (m : w0.heap[g]? = some o0 → w.heap[g]? = some o := by intro h_; (repeat (first | with_reducible exact h_ | (with_reducible first | refine yW ?_ _ | refine yb ?_ | refine zZ ?_ _ | refine zbz ?_ (by assumption) _) | apply yv | exact h_)); all_goals rfl) : w.heap[g]? = some o := m h.out
theorem bw {w w0 w1 : World} {g : Nat} {o : Obj} (hw : w1 = w) (h : Aside0 (w0.heap[g]? = some o)) (m : w0.heap[g]? = some o → w.heap[g]? = some o := by intro h_; repeat (first | with_reducible exact h_ | (with_reducible first | refine yW ?_ _ | refine yb ?_ | refine zZ ?_ _ | refine zbz ?_ (by assumption) _) | exact h_)) : Aside0 (w1.heap[g]? = some o) := ⟨hw ▸ m h.out⟩
section
variable {α : Type} {d : Kd α} {e base : Nat} {w w0 : World} {ok : Nat → Prop} {v : Value} {xs : List α}
theorem rA (h : Kd.R d e w0 base ok v xs) (m : Kd.R d e w0 base ok v xs → Kd.R d e w base ok v xs := by intro h_; (with_reducible repeat (first | apply Kd.xB | apply Kd.yK | apply Kd.xu)); exact h_) : Kd.R d e w base ok v xs := m h
theorem vA (h : Kd.V d e w0 base ok v xs) (m : Kd.V d e w0 base ok v xs → Kd.V d e w base ok v xs := by intro h_; (with_reducible repeat (first | apply Kd.zbq | apply Kd.zbr | apply Kd.zcG)); exact h_) : Kd.V d e w base ok v xs := m h
theorem nA (h : Kd.N d e w0 base ok v xs) (m : Kd.N d e w0 base ok v xs → Kd.N d e w base ok v xs := by intro h_; (with_reducible repeat (first | apply Kd.zbk | apply Kd.zbm | apply Kd.zcy)); exact h_) : Kd.N d e w base ok v xs := m h
theorem sA (h : Kd.S d e w0 base ok v xs) (m : Kd.S d e w0 base ok v xs → Kd.S d e w base ok v xs := by intro h_; (with_reducible repeat (first | apply Kd.z8e | apply Kd.z8f | apply Kd.z9P)); exact h_) : Kd.S d e w base ok v xs := m h
theorem rF (h : Kd.R d e w0 base ok v xs) (m : Kd.R d e w0 base ok v xs → Kd.R d e w base ok v xs := by intro h_; repeat (first | with_reducible exact h_ | refine Kd.z8d ?_ (fun _ hk => hk.2) _ | (with_reducible first | apply Kd.xB | apply Kd.yK | apply Kd.xu) | exact h_)) : Kd.R d e w base ok v xs := m h
theorem sF (h : Kd.S d e w0 base ok v xs) (m : Kd.S d e w0 base ok v xs → Kd.S d e w base ok v xs := by intro h_; repeat (first | with_reducible exact h_ | refine Kd.z8g ?_ (fun _ hk => hk.2) _ | (with_reducible first | apply Kd.z8e | apply Kd.z8f | apply Kd.z9P) | exact h_)) : Kd.S d e w base ok v xs := m h
end
theorem cf2 {w : World} {g : Nat} {t : TypeId} {cs : Array Value} (h : w.heap[g]? = some (.cells cs t (0, 0))) : w.cell? ⟨g, 0, none⟩ = cs[0]? ∧ w.cell? ⟨g, 1, none⟩ = cs[1]? ∧ w.frozen? ⟨g, 0, none⟩ = false ∧ w.frozen? ⟨g, 1, none⟩ = false :=
 ⟨za h 0, za h 1, zn h 0, zn h 1⟩
theorem cf4 {w : World} {g : Nat} {t : TypeId} {cs : Array Value} (h : w.heap[g]? = some (.cells cs t (0, 0))) : w.cell? ⟨g, 0, none⟩ = cs[0]? ∧ w.cell? ⟨g, 1, none⟩ = cs[1]? ∧ w.cell? ⟨g, 2, none⟩ = cs[2]? ∧ w.cell? ⟨g, 3, none⟩ = cs[3]? ∧ w.frozen? ⟨g, 0, none⟩ = false ∧ w.frozen? ⟨g, 1, none⟩ = false ∧ w.frozen? ⟨g, 2, none⟩ = false ∧ w.frozen? ⟨g, 3, none⟩ = false :=
 ⟨za h 0, za h 1, za h 2, za h 3, zn h 0, zn h 1, zn h 2, zn h 3⟩
theorem cf5 {w : World} {g : Nat} {t : TypeId} {cs : Array Value} (h : w.heap[g]? = some (.cells cs t (0, 0))) : w.cell? ⟨g, 0, none⟩ = cs[0]? ∧ w.cell? ⟨g, 1, none⟩ = cs[1]? ∧ w.cell? ⟨g, 2, none⟩ = cs[2]? ∧ w.cell? ⟨g, 3, none⟩ = cs[3]? ∧ w.cell? ⟨g, 4, none⟩ = cs[4]? ∧ w.frozen? ⟨g, 0, none⟩ = false ∧ w.frozen? ⟨g, 1, none⟩ = false ∧ w.frozen? ⟨g, 2, none⟩ = false ∧ w.frozen? ⟨g, 3, none⟩ = false ∧ w.frozen? ⟨g, 4, none⟩ = false :=
 ⟨za h 0, za h 1, za h 2, za h 3, za h 4, zn h 0, zn h 1, zn h 2, zn h 3, zn h 4⟩
theorem cf7 {w : World} {g : Nat} {t : TypeId} {cs : Array Value} (h : w.heap[g]? = some (.cells cs t (0, 0))) : w.cell? ⟨g, 0, none⟩ = cs[0]? ∧ w.cell? ⟨g, 1, none⟩ = cs[1]? ∧ w.cell? ⟨g, 2, none⟩ = cs[2]? ∧ w.cell? ⟨g, 3, none⟩ = cs[3]? ∧ w.cell? ⟨g, 4, none⟩ = cs[4]? ∧ w.cell? ⟨g, 5, none⟩ = cs[5]? ∧ w.cell? ⟨g, 6, none⟩ = cs[6]? ∧ w.frozen? ⟨g, 0, none⟩ = false ∧ w.frozen? ⟨g, 1, none⟩ = false ∧ w.frozen? ⟨g, 2, none⟩ = false ∧ w.frozen? ⟨g, 3, none⟩ = false ∧ w.frozen? ⟨g, 4, none⟩ = false ∧ w.frozen? ⟨g, 5, none⟩ = false ∧ w.frozen? ⟨g, 6, none⟩ = false :=
 ⟨za h 0, za h 1, za h 2, za h 3, za h 4, za h 5, za h 6, zn h 0, zn h 1, zn h 2, zn h 3, zn h 4, zn h 5, zn h 6⟩
theorem cf8 {w : World} {g : Nat} {t : TypeId} {cs : Array Value} (h : w.heap[g]? = some (.cells cs t (0, 0))) : w.cell? ⟨g, 0, none⟩ = cs[0]? ∧ w.cell? ⟨g, 1, none⟩ = cs[1]? ∧ w.cell? ⟨g, 2, none⟩ = cs[2]? ∧ w.cell? ⟨g, 3, none⟩ = cs[3]? ∧ w.cell? ⟨g, 4, none⟩ = cs[4]? ∧ w.cell? ⟨g, 5, none⟩ = cs[5]? ∧ w.cell? ⟨g, 6, none⟩ = cs[6]? ∧ w.cell? ⟨g, 7, none⟩ = cs[7]? ∧ w.frozen? ⟨g, 0, none⟩ = false ∧ w.frozen? ⟨g, 1, none⟩ = false ∧ w.frozen? ⟨g, 2, none⟩ = false ∧ w.frozen? ⟨g, 3, none⟩ = false ∧ w.frozen? ⟨g, 4, none⟩ = false ∧ w.frozen? ⟨g, 5, none⟩ = false ∧ w.frozen? ⟨g, 6, none⟩ = false ∧ w.frozen? ⟨g, 7, none⟩ = false :=
 ⟨za h 0, za h 1, za h 2, za h 3, za h 4, za h 5, za h 6, za h 7, zn h 0, zn h 1, zn h 2, zn h 3, zn h 4, zn h 5, zn h 6, zn h 7⟩
theorem bl {b b0 : Nat} {u u0 w w0 : World} (h : Aside0 (Below b0 u0 w0)) (m : Below b0 u0 w0 → Below b u w := by intro h_; repeat (first | (with_reducible first | exact h_ | apply zl | apply zd | apply zD | refine zG ?_ (Aside0.out (by with_reducible assumption))) | exact h_)) : Below b u w := m h.out
theorem hB_ {b0 : Nat} {u0 w W w0 w2 : World} (h : Aside0 (Below b0 u0 w0)) (k : Below W.heap.size W w2) (m : Below b0 u0 w0 → Below w.heap.size w W := by intro h_; repeat (first | (with_reducible first | exact h_ | apply zl | apply zd | apply zD | refine zG ?_ (Aside0.out (by with_reducible assumption))) | exact h_)) : Aside0 (Below w.heap.size w w2) := ⟨z4F (m h.out) k⟩
theorem bb {w w0 w2 : World} {g : Nat} {o : Obj} (h : Aside0 (w0.heap[g]? = some o)) (k : Below w.heap.size w w2) (m : w0.heap[g]? = some o → w.heap[g]? = some o := by intro h_; repeat (first | with_reducible exact h_ | (with_reducible first | refine yW ?_ _ | refine yb ?_ | refine zZ ?_ _ | refine zbz ?_ (by assumption) _) | exact h_)) : Aside0 (w2.heap[g]? = some o) := ⟨zf (m h.out) k⟩
theorem cA {α : Type} {d : Kd α} {w w0 : World} {A : Option Addr} {n : Nat} {xs : List α} (h : Kd.C d w0 A n xs) (m : Kd.C d w0 A n xs → Kd.C d w A n xs := by intro h_; repeat (first | exact h_ | (with_reducible refine Kd.z02 ?_ _) | (with_reducible refine Kd.z03 ?_ _) | (with_reducible refine Kd.z0L ?_))) : Kd.C d w A n xs := m h
theorem yE {α : Type} (x : α) : ∃ y, Aside0 (y = x) := ⟨x, ⟨rfl⟩⟩
theorem hR (w : World) : Aside0 (Below w.heap.size w w) := ⟨Below.refl _ _⟩
theorem yB {α β : Type} {x : α} {f : α → Option β} {r : Option β} (h : (some x).bind f = r) : ∃ y, Aside0 (y = x) ∧ f y = r := ⟨x, ⟨rfl⟩, h⟩
theorem yS {α : Type} {x r : α} (h : some x = some r) : ∃ y, Aside0 (y = x) ∧ some y = some r := ⟨x, ⟨rfl⟩, h⟩
theorem tO {p : Prop} [Decidable p] (h : decide p = true := by first | (with_reducible assumption) | assumption) : p = True := eq_true (of_decide_eq_true h)
theorem bk {w w0 : World} {g g0 : Nat} {o o0 : Obj} (h : Aside0 (w0.heap[g0]? = some o0)) (m : w0.heap[g0]? = some o0 → w.heap[g]? = some o := by intro h_; (with_reducible repeat (first | refine yW ?_ _ | refine yb ?_ | refine zZ ?_ _)); exact h_) : w.heap[g]? = some o := m h.out
theorem hne {w : World} {a : Addr} {v : Value} {b c : Nat} (hx : w.cell? a = some v) (h : Aside0 (w.heap.size ≤ b)) (e : a.block = c := by first | exact z2M _ _ | rfl) : c ≠ b := Nat.ne_of_lt (e ▸ Nat.lt_of_lt_of_le (World.block_lt_of_cell? _ _ hx) h.out)
theorem gz {g b0 : Nat} {w u u0 w0 : World} (hg : g = u.heap.size) (h : Aside0 (Below b0 u0 w0)) (m : Below b0 u0 w0 → Below w.heap.size w u := by intro h_; repeat (first | (with_reducible first | exact h_ | apply zl | apply zd | apply zD | refine zG ?_ (Aside0.out (by with_reducible assumption))) | exact h_)) : Aside0 (w.heap.size ≤ g) := ⟨hg ▸ (m h.out).size⟩
theorem oa {p : Prop} [Decidable p] (h : decide p = true := by first | (with_reducible assumption) | assumption) : p := of_decide_eq_true h
theorem re {α : Sort _} {a b : α} (h : a = b := by first | rfl | (simp [yY, yZ] <;> rfl) | (simp [*, yY, yZ] <;> rfl)) : a = b := h
theorem rs {α : Sort _} {a b : α} (h : a = b := by first | rfl | (simp; done) | (simp [*]; done)) : a = b := h
theorem cb {α : Type} {d : Kd α} {w0 w wb ub : World} {bb : Nat} {A : Option Addr} {n : Nat} {xs : List α} (h : Aside0 (Kd.C d w0 A n xs)) (hB : Aside0 (Below bb ub wb)) (m : Below bb ub wb → Below w0.heap.size w0 w := by intro h_; repeat (first | (with_reducible first | exact h_ | apply zl | apply zd | apply zD | refine zG ?_ (Aside0.out (by with_reducible assumption))) | exact h_)) : Kd.C d w A n xs := Kd.zK h.out (m hB.out)
theorem xb {w w1 : World} {a : Addr} {v : Value} (hB : Aside0 (Below w.heap.size w w1)) (h : w.cell? a = some v) : w1.cell? a = some v := (hB.out.cell (World.block_lt_of_cell? w _ h)).trans h
def mk (n m : Nat) : Array Bool := ((List.range n).map fun i => m.testBit i).toArray
section
variable {P : Program} {ops : Array Oper} {a : Act} {Q : Exit → Act → World → Prop} {rest : List Oper} {o : Oper}
theorem bx {W : World} {N : Tmp} {cs : Array Value} {t : TypeId}
 (h : ∀ g, g = W.heap.size → ∀ w1, w1.heap[g]? = some (.cells cs t (0, 0)) → Below W.heap.size W w1 → wpList P ops Q rest (a.put o.dst (.pointer (some ⟨g, 0, none⟩))) w1)
 (hd : o.dst = some N := by rfl) (hgd : o.guard = none := by rfl)
 (hrun : (execOp a.eval o).run P W = .ok (.value (.pointer (some ⟨W.heap.size, 0, none⟩))) (W.alloc (.cells cs t (0, 0))) := by first | (go_simp; done) | (go_simp; rfl)) : wpList P ops Q (o :: rest) a W := z8T hgd hd hrun h
theorem gl {oi : Oper} {w : World} (N : Tmp) {f : FuncId} {fn : Func} {as : Array Operand} {ts : Array TypeId} (hf : P.funcs[f]? = some fn) (args : Array Value)
 (h : Calls P f args w fun e w' => ∃ v, e = .returned v ∧ wpList P ops Q rest (a.put (some N) v) w')
 (hd : oi.dst = some N := by rfl) (hg : oi.guard = none := by rfl) (hname : (fn.name == "runtime.NumGoroutine") = false := by kernel_rfl) (hb : fn.body.isSome = true := by rfl)
 (hop : oi.op = .call { callee := .value (.func f), args := as, argTypes := ts } := by rfl)
 (hargs : as.map a.eval = args := by (try simp only [List.map_toArray, List.map_cons, List.map_nil]); first | done | rfl | (simp only [List.length_drop, List.length_take]; rfl) | (simp only [ByteArray.size_append, Int.toNat_natCast]; rfl)) : wpList P ops Q (oi :: rest) a w := z7A (some N) hd hg hf hname hb args hop hargs h
variable {S : World → Prop} {ds : List Nat} {md : Region.Mode}
theorem pu (i N : Nat) {oi : Oper} {v : Value} {fuel : Nat} {l : Array Bool} {w : World} (l' : Array Bool) (hc : z9Y md ops l l' i = true) {a' : Act} (h : zO P md ops Q S ds fuel l' a' w)
 (hi : ops[i]? = some oi := by rfl) (hN : oi.dst = some N := by rfl) (hQ : ∀ c a w, Q (.panic c) (a.put oi.dst v) w → Q (.panic c) a w := by exact fun _ _ _ h => h)
 (hy : Yields P ops oi v a := by first | exact Or.inr ⟨by rfl, rfl⟩ | exact Or.inl ⟨by rfl, by intro w'; go_simp; with_reducible rfl⟩)
 (ha : a.put (some N) v = a' := by simp only [Act.put, List.setIfInBounds_toArray, List.set_cons_zero, List.set_cons_succ, yh, yQ]; rfl) : zO P md ops Q S ds (fuel + 1) l a w := z5L l' hi hN hc hQ hy ha h
theorem tk (i N : Nat) {oi : Oper} {v : Value} {fuel : Nat} {l : Array Bool} {w : World} (l' : Array Bool) (hc : z5X md ops ds l l' i = true) (hS : S w) {a' : Act} (h : zO P md ops Q S ds fuel l' a' w)
 (hi : ops[i]? = some oi := by rfl) (hN : oi.dst = some N := by rfl) (hQ : ∀ c a w, Q (.panic c) (a.put oi.dst v) w → Q (.panic c) a w := by exact fun _ _ _ h => h)
 (hy : YieldsIf P ops S oi v a := by first | exact Or.inr ⟨by rfl, rfl⟩ | exact Or.inl ⟨by rfl, by intro w' hs_; (repeat (obtain ⟨_, hs_⟩ := hs_)); go_simp; with_reducible rfl⟩)
 (ha : a.put (some N) v = a' := by simp only [Act.put, List.setIfInBounds_toArray, List.set_cons_zero, List.set_cons_succ, yh, yQ]; rfl) : zO P md ops Q S ds (fuel + 1) l a w := z55 l' hi hN hc hQ hy hS ha h
theorem pv (i N : Nat) {T : Bool × List (List Nat × List Nat)} {oi : Oper} {v : Value} {fuel : Nat} {l : Array Bool} {w : World} (l' : Array Bool) {a' : Act} (h : zO P md ops Q S ds fuel l' a' w)
 (hT : Aside0 (z06 md ops = T) := by assumption) (hk : zcI T l.toList l'.toList i = true := by kernel_rfl)
 (hi : ops[i]? = some oi := by rfl) (hN : oi.dst = some N := by rfl) (hQ : ∀ c a w, Q (.panic c) (a.put oi.dst v) w → Q (.panic c) a w := by exact fun _ _ _ h => h)
 (hy : Yields P ops oi v a := by first | exact Or.inr ⟨by rfl, rfl⟩ | exact Or.inl ⟨by rfl, by intro w'; go_simp; with_reducible rfl⟩)
 (ha : a.put (some N) v = a' := by simp only [Act.put, List.setIfInBounds_toArray, List.set_cons_zero, List.set_cons_succ, yh, yQ]; rfl) : zO P md ops Q S ds (fuel + 1) l a w := z5L l' hi hN (zcJ hT.out hk) hQ hy ha h
theorem tv (i N : Nat) {T : Bool × List (List Nat × List Nat)} {B : List Nat} {oi : Oper} {v : Value} {fuel : Nat} {l : Array Bool} {w : World} (l' : Array Bool) (hS : S w) {a' : Act} (h : zO P md ops Q S ds fuel l' a' w)
 (hT : Aside0 (z06 md ops = T) := by assumption) (hB : Aside0 (z0f T.2 B = true) := by assumption) (hk : zb6 T B ds l.toList l'.toList i = true := by kernel_rfl)
 (hi : ops[i]? = some oi := by rfl) (hN : oi.dst = some N := by rfl) (hQ : ∀ c a w, Q (.panic c) (a.put oi.dst v) w → Q (.panic c) a w := by exact fun _ _ _ h => h)
 (hy : YieldsIf P ops S oi v a := by first | exact Or.inr ⟨by rfl, rfl⟩ | exact Or.inl ⟨by rfl, by intro w' hs_; (repeat (obtain ⟨_, hs_⟩ := hs_)); go_simp; with_reducible rfl⟩)
 (ha : a.put (some N) v = a' := by simp only [Act.put, List.setIfInBounds_toArray, List.set_cons_zero, List.set_cons_succ, yh, yQ]; rfl) : zO P md ops Q S ds (fuel + 1) l a w := z55 l' hi hN (zb8 hT.out hB.out hk) hQ hy hS ha h
end
end Go.Proofs.FX

namespace Go.Proofs.PW
open Go.RowKit
section
variable {w w' u : World} {m B g : Nat} {o : Obj} {row : Option Nat} {S : Nat → Prop} {a : Addr} {v : Value}
theorem z4E (hq : w.drewN m = w') (h : Below B u w) : Below B u w' := by subst hq; exact zd h m
end
namespace Kd
section
variable {α : Type} {d : Kd α} {e base n m : Nat} {ok : Nat → Prop} {w w' : World} {v : Value} {A : Option Addr} {xs : List α}
theorem zcA (hq : w.drewN m = w') (h : d.R e w base ok v xs) : d.R e w' base ok v xs := by subst hq; exact yK h m
end
end Kd
end Go.Proofs.PW

namespace Go.Proofs.PW
theorem zQ.one {α : Type} {R : α → List Value → Prop} {ps : List α} {cs : List Value} {p : α} {v : Value} (hp : R p [v]) (h : zQ R 1 ps cs) : zQ R 1 (p :: ps) (v :: cs) := by
 refine ⟨by simp [h.1], fun j q hq => ?_⟩
 cases j with
 | zero =>
  simp only [List.getElem?_cons_zero, Option.some.injEq] at hq
  subst hq
  simpa using hp
 | succ j =>
  simp only [List.getElem?_cons_succ] at hq
  have h1 := h.2 j q hq
  simpa [Nat.mul_one] using h1
theorem zQ.front {α : Type} {R : α → List Value → Prop} {size : Nat} {ps : List α} {cs c all : List Value} {p : α} (hp : R p c) (hc : c.length = size) (h : zQ R size ps cs) (ha : c ++ cs = all) : zQ R size (p :: ps) all := by
 subst ha
 refine ⟨by rw [List.length_append, hc, h.1, List.length_cons, Nat.succ_mul, Nat.add_comm], fun j q hq => ?_⟩
 cases j with
 | zero =>
  simp only [List.getElem?_cons_zero, Option.some.injEq] at hq
  subst hq
  rw [Nat.zero_mul, List.drop_zero, List.take_append_of_le_length (by omega), List.take_of_length_le (by omega)]
  exact hp
 | succ j =>
  simp only [List.getElem?_cons_succ] at hq
  have h1 := h.2 j q hq
  rw [Nat.succ_mul, List.drop_append, List.drop_of_length_le (by rw [hc]; exact Nat.le_add_left _ _), List.nil_append, hc, Nat.add_sub_cancel]
  exact h1
theorem zQ.c2 {α : Type} {R : α → List Value → Prop} {ps : List α} {cs : List Value} {p : α} {va vb : Value} (hp : R p [va, vb]) (h : zQ R 2 ps cs) : zQ R 2 (p :: ps) (va :: vb :: cs) := zQ.front hp rfl h rfl
theorem zQ.c3 {α : Type} {R : α → List Value → Prop} {ps : List α} {cs : List Value} {p : α} {va vb vc : Value} (hp : R p [va, vb, vc]) (h : zQ R 3 ps cs) : zQ R 3 (p :: ps) (va :: vb :: vc :: cs) := zQ.front hp rfl h rfl
theorem zQ.c4 {α : Type} {R : α → List Value → Prop} {ps : List α} {cs : List Value} {p : α} {va vb vc vd : Value} (hp : R p [va, vb, vc, vd]) (h : zQ R 4 ps cs) : zQ R 4 (p :: ps) (va :: vb :: vc :: vd :: cs) := zQ.front hp rfl h rfl
theorem zQ.c5 {α : Type} {R : α → List Value → Prop} {ps : List α} {cs : List Value} {p : α} {va vb vc vd ve : Value} (hp : R p [va, vb, vc, vd, ve]) (h : zQ R 5 ps cs) : zQ R 5 (p :: ps) (va :: vb :: vc :: vd :: ve :: cs) := zQ.front hp rfl h rfl
theorem zQ.c6 {α : Type} {R : α → List Value → Prop} {ps : List α} {cs : List Value} {p : α} {va vb vc vd ve vf : Value} (hp : R p [va, vb, vc, vd, ve, vf]) (h : zQ R 6 ps cs) : zQ R 6 (p :: ps) (va :: vb :: vc :: vd :: ve :: vf :: cs) := zQ.front hp rfl h rfl
theorem zQ.c7 {α : Type} {R : α → List Value → Prop} {ps : List α} {cs : List Value} {p : α} {va vb vc vd ve vf vg : Value} (hp : R p [va, vb, vc, vd, ve, vf, vg]) (h : zQ R 7 ps cs) : zQ R 7 (p :: ps) (va :: vb :: vc :: vd :: ve :: vf :: vg :: cs) := zQ.front hp rfl h rfl
theorem zQ.c8 {α : Type} {R : α → List Value → Prop} {ps : List α} {cs : List Value} {p : α} {va vb vc vd ve vf vg vh : Value} (hp : R p [va, vb, vc, vd, ve, vf, vg, vh]) (h : zQ R 8 ps cs) : zQ R 8 (p :: ps) (va :: vb :: vc :: vd :: ve :: vf :: vg :: vh :: cs) := zQ.front hp rfl h rfl
theorem zQ.c9 {α : Type} {R : α → List Value → Prop} {ps : List α} {cs : List Value} {p : α} {va vb vc vd ve vf vg vh vi : Value} (hp : R p [va, vb, vc, vd, ve, vf, vg, vh, vi]) (h : zQ R 9 ps cs) : zQ R 9 (p :: ps) (va :: vb :: vc :: vd :: ve :: vf :: vg :: vh :: vi :: cs) := zQ.front hp rfl h rfl
theorem zQ.c10 {α : Type} {R : α → List Value → Prop} {ps : List α} {cs : List Value} {p : α} {va vb vc vd ve vf vg vh vi vj : Value} (hp : R p [va, vb, vc, vd, ve, vf, vg, vh, vi, vj]) (h : zQ R 10 ps cs) : zQ R 10 (p :: ps) (va :: vb :: vc :: vd :: ve :: vf :: vg :: vh :: vi :: vj :: cs) := zQ.front hp rfl h rfl
end Go.Proofs.PW

namespace Go.Proofs.PL
def up (b : Nat → Bool) (i : Nat) : Nat → Bool := fun j => if j = i then true else b j
theorem z1u (b : Nat → Bool) (i : Nat) : up b i i = true := by simp [up]
theorem z58 {b : Nat → Bool} {i j : Nat} (h : j ≠ i) : up b i j = b j := by simp [up, h]
def lof (n : Nat) (O : List Nat) (b : Nat → Bool) : List Bool := (List.range n).map fun j => if O.contains j then b j else true
def xZ (a : Act) (b : Nat → Bool) : List (Nat × Tmp × Value) → Act
 | [] => a
 | e :: r => xZ (if b e.1 = true then a.put (some e.2.1) e.2.2 else a) b r
section
variable {P : Program} {ops : Array Oper} {Q : Exit → Act → World → Prop} {md : Region.Mode} {T : Bool × List (List Nat × List Nat)} {B : List Nat} {O : List Nat} {b : Nat → Bool} {i j n : Nat}
theorem z7S : (lof n O b).length = n := by simp [lof]
theorem z4r {d : Bool} (hj : j < n) : (lof n O b).getD j d = if O.contains j then b j else true := by
 simp [lof, List.getD_eq_getElem?_getD, hj]
theorem zcV (hi : O.contains i = true) : (lof n O b).set i true = lof n O (up b i) := by
 apply List.ext_getElem?
 intro j
 by_cases hj : j < n
 ·by_cases hij : i = j
  ·subst hij
   have hl : i < (lof n O b).length := by rw [z7S]; exact hj
   rw [List.getElem?_set_self hl]
   simp only [lof, List.getElem?_map, List.getElem?_range hj, Option.map_some, hi, if_true, z1u]
  ·rw [List.getElem?_set_ne hij]
   simp only [lof, List.getElem?_map, List.getElem?_range hj, Option.map_some]
   rw [z58 (Ne.symm hij)]
 ·rw [List.getElem?_eq_none (by simp [lof]; omega), List.getElem?_eq_none (by simp [lof]; omega)]
def z3h (P : Program) (ops : Array Oper) (Q : Exit → Act → World → Prop) (B : List Nat) (O : List Nat) (I : (Nat → Bool) → Act → World → Prop) (i : Nat) : Prop :=
 ∀ b a w, I b a w → b i = false → (∀ j, (O.contains j && (B.getD i 0).testBit j) = true → b j = true) → (∀ d, (O.contains d && (B.getD d 0).testBit i) = true → b d = false) →
  ∃ oi, ops[i]? = some oi ∧ ∀ K : Act → World → Prop, Shut (∀ a' w', I (up b i) a' w' → K a' w') → if Region.wanted oi (yielded ops a.tmps) = true then Oper.wp P oi a w K Q else K (a.put oi.dst undef) w
theorem z9w {I : (Nat → Bool) → Act → World → Prop} : ∀ i ∈ ([] : List Nat), z3h P ops Q B O I i := fun _ h => by cases h
theorem yO {I : (Nat → Bool) → Act → World → Prop} {rs : List Nat} (h : z3h P ops Q B O I i) (hs : ∀ j ∈ rs, z3h P ops Q B O I j) : ∀ j ∈ i :: rs, z3h P ops Q B O I j := fun j hj => by
 rcases List.mem_cons.1 hj with rfl | hj
 ·exact h
 ·exact hs j hj
def z1x (T : List (List Nat × List Nat)) (O : List Nat) : Bool :=
 (List.range T.length).all (fun d => match T[d]? with
  | some r => (O.contains d || r.1.all fun n => !O.contains n) && r.1.all fun n => decide (n < d)
  | none => false) && O.all (fun i => decide (i < T.length)) && decide O.Nodup
theorem z1b {T : List (List Nat × List Nat)} (h : z1x T O = true) {d : Nat} {r : List Nat × List Nat} (hr : T[d]? = some r) : (O.contains d = false → ∀ n ∈ r.1, O.contains n = false) ∧ ∀ n ∈ r.1, n < d := by
 simp only [z1x, Bool.and_eq_true] at h
 have h1 := List.all_eq_true.1 h.1.1 d (List.mem_range.2 (List.getElem?_eq_some_iff.1 hr).1)
 rw [hr] at h1
 simp only [Bool.and_eq_true, Bool.or_eq_true, List.all_eq_true, decide_eq_true_eq] at h1
 refine ⟨fun hd n hn => ?_, h1.2⟩
 rcases h1.1 with h2 | h2
 ·rw [hd] at h2; cases h2
 ·simpa using h2 n hn
theorem z5t {T : List (List Nat × List Nat)} (h : z1x T O = true) {i : Nat} (hi : i ∈ O) : i < T.length := by
 simp only [z1x, Bool.and_eq_true] at h
 simpa using List.all_eq_true.1 h.1.2 i hi
theorem z6c {T : List (List Nat × List Nat)} (h : z1x T O = true) : O.Nodup := by
 simp only [z1x, Bool.and_eq_true] at h
 exact of_decide_eq_true h.2
def z9B (T : List (List Nat × List Nat)) (O : List Nat) (b : Nat → Bool) : Prop := ∀ d r, T[d]? = some r → O.contains d = true → b d = true → ∀ n ∈ r.1, O.contains n = true → b n = true
theorem z6A {T : List (List Nat × List Nat)} (hw : z0f T B = true) (hk : z1x T O = true) : ∀ (m d : Nat), d ≤ m → d < T.length → O.contains d = false → ∀ j, (B.getD d 0).testBit j = true → O.contains j = false := by
 intro m
 induction m with
 | zero =>
  intro d hd hl hO j hj
  have hd0 : d = 0 := by omega
  subst hd0
  have hr : T[0]? = some T[0] := List.getElem?_eq_getElem hl
  have h1 := List.all_eq_true.1 hw 0 (List.mem_range.2 hl)
  rw [hr] at h1
  simp only [beq_iff_eq] at h1
  have h2 : (upM B 0 T[0].1).testBit j = true := by rw [← h1, Nat.testBit_or, hj, Bool.true_or]
  obtain ⟨n, hn, h3⟩ := z2i h2
  have := (z1b hk hr).2 n hn
  omega
 | succ m ih =>
  intro d hd hl hO j hj
  have hr : T[d]? = some T[d] := List.getElem?_eq_getElem hl
  have h1 := List.all_eq_true.1 hw d (List.mem_range.2 hl)
  rw [hr] at h1
  simp only [beq_iff_eq] at h1
  have h2 : (upM B d T[d].1).testBit j = true := by rw [← h1, Nat.testBit_or, hj, Bool.true_or]
  obtain ⟨n, hn, h3⟩ := z2i h2
  have hO2 := (z1b hk hr).1 hO n hn
  rcases h3 with rfl | ⟨h4, h5⟩
  ·exact hO2
  ·exact ih n (by omega) (by omega) hO2 j h5
theorem z3X {T : List (List Nat × List Nat)} (hw : z0f T B = true) (hk : z1x T O = true) (hc : z9B T O b) : ∀ (m d : Nat), d ≤ m → d < T.length → O.contains d = true → b d = true → ∀ j, O.contains j = true → (B.getD d 0).testBit j = true → b j = true := by
 intro m
 induction m with
 | zero =>
  intro d hd hl hO hb j hjO hj
  have hd0 : d = 0 := by omega
  subst hd0
  have hr : T[0]? = some T[0] := List.getElem?_eq_getElem hl
  have h1 := List.all_eq_true.1 hw 0 (List.mem_range.2 hl)
  rw [hr] at h1
  simp only [beq_iff_eq] at h1
  have h2 : (upM B 0 T[0].1).testBit j = true := by rw [← h1, Nat.testBit_or, hj, Bool.true_or]
  obtain ⟨n, hn, h3⟩ := z2i h2
  have := (z1b hk hr).2 n hn
  omega
 | succ m ih =>
  intro d hd hl hO hb j hjO hj
  have hr : T[d]? = some T[d] := List.getElem?_eq_getElem hl
  have h1 := List.all_eq_true.1 hw d (List.mem_range.2 hl)
  rw [hr] at h1
  simp only [beq_iff_eq] at h1
  have h2 : (upM B d T[d].1).testBit j = true := by rw [← h1, Nat.testBit_or, hj, Bool.true_or]
  obtain ⟨n, hn, h3⟩ := z2i h2
  rcases h3 with rfl | ⟨h4, h5⟩
  ·exact hc d _ hr hO hb n hn hjO
  ·cases hO2 : O.contains n with
   | true => exact ih n (by omega) (by omega) hO2 (hc d _ hr hO hb n hn hO2) j hjO h5
   | false =>
    have := z6A hw hk n n (Nat.le_refl _) (by omega) hO2 j h5
    rw [hjO] at this
    cases this
theorem z7f : ∀ {O : List Nat}, O.Nodup → i ∈ O → b i = false → (O.filter fun j => !up b i j).length + 1 = (O.filter fun j => !b j).length
 | [], _, hi, _ => by cases hi
 | x :: r, hn, hi, hb => by
  rw [List.nodup_cons] at hn
  rcases List.mem_cons.1 hi with rfl | hi
  ·have h1 : (r.filter fun j => !up b i j) = r.filter fun j => !b j := by
    refine List.filter_congr (fun j hj => ?_)
    rw [z58 (fun e => hn.1 (by rw [← e]; exact hj))]
   rw [List.filter_cons, List.filter_cons]
   simp [z1u, hb, h1]
  ·have hxi : x ≠ i := fun e => hn.1 (e ▸ hi)
   have h1 := z7f hn.2 hi hb
   rw [List.filter_cons, List.filter_cons, z58 hxi]
   cases hbx : b x
   ·simp only [Bool.not_false, if_true, List.length_cons]
    omega
   ·simpa using h1
theorem zbL (hT : z06 md ops = T) (hw : z0f T.2 B = true) (hk : z1x T.2 O = true) (I : (Nat → Bool) → Act → World → Prop) (hs : ∀ i ∈ O, z3h P ops Q B O I i)
 (hend : ∀ b a w, (∀ j, O.contains j = true → b j = true) → I b a w → Q .normal a w) :
 ∀ (m : Nat) (b : Nat → Bool) (a : Act) (w : World), (O.filter fun j => !b j).length = m → z9B T.2 O b → I b a w → zO P md ops Q (fun _ => True) [] m (lof T.2.length O b).toArray a w := by
 subst hT
 have mem_ready' : ∀ {b : Nat → Bool} {i : Nat}, i ∈ Region.ready md ops (lof (z06 md ops).2.length O b).toArray → i < (z06 md ops).2.length ∧ O.contains i = true ∧ b i = false ∧ ∀ r, (z06 md ops).2[i]? = some r → ∀ n ∈ r.1, n < (z06 md ops).2.length → O.contains n = true → b n = true := by
  intro b i hi
  rw [z1Y] at hi
  unfold z2I at hi
  rw [List.mem_filter, List.mem_range] at hi
  obtain ⟨hl, h1⟩ := hi
  unfold z1i at h1
  rw [Bool.and_eq_true, z4r hl] at h1
  obtain ⟨h2, h3⟩ := h1
  have h4 : O.contains i = true := by
   cases h : O.contains i with
   | true => rfl
   | false => rw [h] at h2; simp at h2
  rw [h4] at h2
  refine ⟨hl, h4, by simpa using h2, fun r hr n hn hnl hO => ?_⟩
  rw [hr] at h3
  simp only [List.all_eq_true] at h3
  have h5 := h3 n hn
  rw [z4r hnl, hO] at h5
  simpa using h5
 intro m
 induction m with
 | zero =>
  intro b a w hm hc hI
  have hall : ∀ j, O.contains j = true → b j = true := by
   intro j hj
   cases hb : b j with
   | true => rfl
   | false =>
    have : j ∈ O.filter fun j => !b j := List.mem_filter.2 ⟨List.contains_iff_mem.1 hj, by simp [hb]⟩
    rw [List.eq_nil_of_length_eq_zero hm] at this
    cases this
  refine ⟨?_, hend b a w hall hI⟩
  refine List.eq_nil_iff_forall_not_mem.2 (fun i hi => ?_)
  obtain ⟨_, h1, h2, _⟩ := mem_ready' hi
  rw [hall i h1] at h2
  cases h2
 | succ m ih =>
  intro b a w hm hc hI
  refine ⟨fun hr => ?_, fun i hi => ?_⟩
  ·exfalso
   have hex : ∃ i, O.contains i = true ∧ b i = false := by
    cases hf : O.filter (fun j => !b j) with
    | nil => rw [hf] at hm; simp at hm
    | cons x r =>
     have hx : x ∈ O.filter (fun j => !b j) := by rw [hf]; exact List.mem_cons_self
     rw [List.mem_filter] at hx
     exact ⟨x, List.contains_iff_mem.2 hx.1, by simpa using hx.2⟩
   have hmin : ∀ k, (∃ i, i ≤ k ∧ O.contains i = true ∧ b i = false) → ∃ i, O.contains i = true ∧ b i = false ∧ ∀ j, j < i → O.contains j = true → b j = true := by
    intro k
    induction k with
    | zero =>
     rintro ⟨i, hi, h1, h2⟩
     exact ⟨i, h1, h2, fun j hj => by omega⟩
    | succ k ihk =>
     rintro ⟨i, hi, h1, h2⟩
     by_cases hlow : ∃ j, j ≤ k ∧ O.contains j = true ∧ b j = false
     ·exact ihk hlow
     ·refine ⟨i, h1, h2, fun j hj hO => ?_⟩
      cases hb : b j with
      | true => rfl
      | false => exact absurd ⟨j, by omega, hO, hb⟩ hlow
   obtain ⟨i0, h1, h2⟩ := hex
   obtain ⟨i, hO, hb, hlow⟩ := hmin i0 ⟨i0, Nat.le_refl _, h1, h2⟩
   have hl := z5t hk (List.contains_iff_mem.1 hO)
   have hin : i ∈ Region.ready md ops (lof (z06 md ops).2.length O b).toArray := by
    rw [z1Y]
    unfold z2I
    rw [List.mem_filter, List.mem_range]
    refine ⟨hl, ?_⟩
    unfold z1i
    rw [z4r hl, hO, hb]
    have hr2 : (z06 md ops).2[i]? = some (z06 md ops).2[i] := List.getElem?_eq_getElem hl
    rw [hr2]
    simp only [if_true, Bool.not_false, Bool.true_and, List.all_eq_true]
    intro n hn
    have hni := (z1b hk hr2).2 n hn
    rw [z4r (by omega)]
    cases hOn : O.contains n with
    | true => simpa using hlow n hni hOn
    | false => simp
   rw [hr] at hin
   cases hin
  ·obtain ⟨hl, hO, hb, hneed⟩ := mem_ready' hi
   have hon : ∀ j, (O.contains j && (B.getD i 0).testBit j) = true → b j = true := by
    intro j hj
    rw [Bool.and_eq_true] at hj
    have hr2 : (z06 md ops).2[i]? = some (z06 md ops).2[i] := List.getElem?_eq_getElem hl
    have h1 := List.all_eq_true.1 hw i (List.mem_range.2 hl)
    rw [hr2] at h1
    simp only [beq_iff_eq] at h1
    have h2 : (upM B i (z06 md ops).2[i].1).testBit j = true := by rw [← h1, Nat.testBit_or, hj.2, Bool.true_or]
    obtain ⟨n, hn, h3⟩ := z2i h2
    have hni := (z1b hk hr2).2 n hn
    rcases h3 with rfl | ⟨h4, h5⟩
    ·exact hneed _ hr2 n hn (by omega) hj.1
    ·cases hO2 : O.contains n with
     | true => exact z3X hw hk hc n n (Nat.le_refl _) (by omega) hO2 (hneed _ hr2 n hn (by omega) hO2) j hj.1 h5
     | false =>
      have := z6A hw hk n n (Nat.le_refl _) (by omega) hO2 j h5
      rw [hj.1] at this
      cases this
   have hoff : ∀ d, (O.contains d && (B.getD d 0).testBit i) = true → b d = false := by
    intro d hd
    rw [Bool.and_eq_true] at hd
    cases hbd : b d with
    | false => rfl
    | true =>
     have hdl := z5t hk (List.contains_iff_mem.1 hd.1)
     have := z3X hw hk hc d d (Nat.le_refl _) hdl hd.1 hbd i hO hd.2
     rw [hb] at this
     cases this
   obtain ⟨oi, hoi, hK⟩ := hs i (List.contains_iff_mem.1 hO) b a w hI hb hon hoff
   refine wpOp_step hoi (fun K' hK' => hK K' (fun a' w' hI' => hK' a' w' ⟨fun _ _ => trivial, ?_⟩))
   have hset : (lof (z06 md ops).2.length O b).toArray.setIfInBounds i true = (lof (z06 md ops).2.length O (up b i)).toArray := by
    apply Array.ext'
    rw [Array.toList_setIfInBounds]
    exact zcV hO
   rw [hset]
   refine ih (up b i) a' w' ?_ ?_ hI'
   ·have := z7f (z6c hk) (List.contains_iff_mem.1 hO) hb
    omega
   ·intro d r hr hOd hbd n hn hOn
    by_cases hni : n = i
    ·rw [hni, z1u]
    ·rw [z58 hni]
     by_cases hdi : d = i
     ·subst hdi
      exact hneed r hr n hn (by have := (z1b hk hr).2 n hn; omega) hOn
     ·rw [z58 hdi] at hbd
      exact hc d r hr hOd hbd n hn hOn
theorem z00 {b : Nat → Bool} {t : Tmp} : ∀ {L : List (Nat × Tmp × Value)} {a : Act}, (L.all fun e => !(e.2.1 == t)) = true → (xZ a b L).tmps[t]? = a.tmps[t]?
 | [], _, _ => rfl
 | e :: r, a, h => by
  rw [List.all_cons, Bool.and_eq_true] at h
  have he : e.2.1 ≠ t := by simpa using h.1
  unfold xZ
  by_cases hb : b e.1 = true
  ·rw [if_pos hb, z00 h.2]
   simp [Act.put, Array.getElem?_setIfInBounds_ne he]
  ·rw [if_neg hb]
   exact z00 h.2
theorem xk {b : Nat → Bool} {e : Nat × Tmp × Value} : ∀ {L : List (Nat × Tmp × Value)} {a : Act} (k : Nat), L[k]? = some e → ((L.drop (k + 1)).all fun x => !(x.2.1 == e.2.1)) = true → b e.1 = true → Nat.ble (e.2.1 + 1) a.tmps.size = true → (xZ a b L).tmps[e.2.1]? = some e.2.2
 | [], _, _, h, _, _, _ => by cases h
 | x :: r, a, 0, h, hd, hb, ht => by
  simp only [List.getElem?_cons_zero, Option.some.injEq] at h
  subst h
  unfold xZ
  rw [if_pos hb, z00 (by simpa using hd)]
  have ht2 : x.2.1 < a.tmps.size := Nat.le_of_ble_eq_true ht
  simp [Act.put, ht2]
 | x :: r, a, k + 1, h, hd, hb, ht => by
  unfold xZ
  refine xk k (by simpa using h) (by simpa using hd) hb ?_
  by_cases hx : b x.1 = true
  ·rw [if_pos hx]
   simpa [Act.put] using ht
  ·rw [if_neg hx]
   exact ht
theorem put_comm {a : Act} {s t : Tmp} {u v : Value} (h : s ≠ t) : (a.put (some s) u).put (some t) v = (a.put (some t) v).put (some s) u := by
 simp only [Act.put]
 rw [Array.setIfInBounds_comm _ _ h]
theorem z3n {b : Nat → Bool} {t : Tmp} {v : Value} : ∀ {L : List (Nat × Tmp × Value)} {a : Act}, (L.all fun e => !(e.2.1 == t)) = true → (xZ a b L).put (some t) v = xZ (a.put (some t) v) b L
 | [], _, _ => rfl
 | e :: r, a, h => by
  rw [List.all_cons, Bool.and_eq_true] at h
  have he : e.2.1 ≠ t := by simpa using h.1
  unfold xZ
  by_cases hb : b e.1 = true
  ·rw [if_pos hb, if_pos hb, z3n h.2, put_comm he]
  ·rw [if_neg hb, if_neg hb]
   exact z3n h.2
theorem z2H {b : Nat → Bool} {i : Nat} : ∀ {L : List (Nat × Tmp × Value)} {a : Act}, (L.all fun e => !(e.1 == i)) = true → xZ a (up b i) L = xZ a b L
 | [], _, _ => rfl
 | e :: r, a, h => by
  rw [List.all_cons, Bool.and_eq_true] at h
  have he : e.1 ≠ i := by simpa using h.1
  unfold xZ
  rw [z58 he]
  exact z2H h.2
theorem z5M {b : Nat → Bool} {i : Nat} {t : Tmp} {v0 v : Value} : ∀ {L1 L2 : List (Nat × Tmp × Value)} {a : Act}, b i = false → ((L1 ++ L2).all fun e => !(e.1 == i) && !(e.2.1 == t)) = true →
 (xZ a b (L1 ++ (i, t, v0) :: L2)).put (some t) v = xZ a (up b i) (L1 ++ (i, t, v) :: L2)
 | [], L2, a, hb, h => by
  simp only [List.nil_append] at h ⊢
  have h1 : (L2.all fun e => !(e.1 == i)) = true := List.all_eq_true.2 (fun e he => by have := List.all_eq_true.1 h e he; simp only [Bool.and_eq_true] at this; exact this.1)
  have h2 : (L2.all fun e => !(e.2.1 == t)) = true := List.all_eq_true.2 (fun e he => by have := List.all_eq_true.1 h e he; simp only [Bool.and_eq_true] at this; exact this.2)
  unfold xZ
  rw [if_neg (by rw [hb]; decide), if_pos (z1u b i), z3n h2, z2H h1]
 | e :: r, L2, a, hb, h => by
  simp only [List.cons_append, List.all_cons, Bool.and_eq_true] at h
  have he : e.1 ≠ i := by simpa using h.1.1
  simp only [List.cons_append]
  unfold xZ
  rw [z58 he]
  exact z5M hb h.2
theorem yT {b : Nat → Bool} {i : Nat} {t : Tmp} {v0 v : Value} {a : Act} {L L' : List (Nat × Tmp × Value)} (k : Nat) (hb : b i = false) (hL : L[k]? = some (i, t, v0)) (hL' : L.set k (i, t, v) = L') (hd : ((L.take k ++ L.drop (k + 1)).all fun e => !(e.1 == i) && !(e.2.1 == t)) = true) :
 (xZ a b L).put (some t) v = xZ a (up b i) L' := by
 have hk := (List.getElem?_eq_some_iff.1 hL).1
 have h1 : L = L.take k ++ (i, t, v0) :: L.drop (k + 1) := by
  have h2 : L[k] = (i, t, v0) := (List.getElem?_eq_some_iff.1 hL).2
  rw [← h2, List.getElem_cons_drop, List.take_append_drop]
 have h3 : L' = L.take k ++ (i, t, v) :: L.drop (k + 1) := by rw [← hL', List.set_eq_take_append_cons_drop, if_pos hk]
 rw [h3]
 conv => lhs; rw [h1]
 exact z5M hb hd
theorem z73 {b : Nat → Bool} {i : Nat} {L : List (Nat × Tmp × Value)} {a : Act} {v : Value} (h : (L.all fun e => !(e.1 == i)) = true) : (xZ a b L).put none v = xZ a (up b i) L := (z2H h).symm
theorem ze9 {l : Array Bool} {fuel : Nat} {a : Act} {w : World} (O : List Nat) (I : (Nat → Bool) → Act → World → Prop) (hT : z06 md ops = T) (hw : z0f T.2 B = true) (hk : z1x T.2 O = true)
 (hl : (lof T.2.length O (fun _ => false) == l.toList && O.length == fuel) = true) (h0 : I (fun _ => false) a w) (hs : ∀ i ∈ O, z3h P ops Q B O I i)
 (hend : ∀ b a w, (∀ j, O.contains j = true → b j = true) → I b a w → Q .normal a w) : zO P md ops Q (fun _ => True) [] fuel l a w := by
 rw [Bool.and_eq_true, beq_iff_eq, beq_iff_eq] at hl
 have h1 := zbL hT hw hk I hs hend fuel (fun _ => false) a w (by rw [← hl.2]; simp) (fun d r _ _ hb => by cases hb) h0
 have h2 : (lof T.2.length O (fun _ => false)).toArray = l := by apply Array.ext'; exact hl.1
 rw [h2] at h1
 exact h1
theorem zcT {l : Array Bool} {fuel : Nat} {a : Act} {w : World} (O : List Nat) (I : Act → (Nat → Bool) → Act → World → Prop) (hT : z06 md ops = T) (hw : z0f T.2 B = true) (hk : z1x T.2 O = true)
 (hl : (lof T.2.length O (fun _ => false) == l.toList && O.length == fuel) = true) (h0 : I a (fun _ => false) a w) (hs : ∀ i ∈ O, z3h P ops Q B O (I a) i)
 (hend : ∀ b a' w, (∀ j, O.contains j = true → b j = true) → I a b a' w → Q .normal a' w) : zO P md ops Q (fun _ => True) [] fuel l a w := ze9 O (I a) hT hw hk hl h0 hs hend
end
end Go.Proofs.PL

namespace Go.Proofs.PW
open Go.RowKit
theorem Kd.z3L {α : Type} {d : Kd α} {e base : Nat} {ok ok' : Nat → Prop} {w : World} {v : Value} {xs : List α} (hd : ∀ {ok1 ok2 : Nat → Prop} {x : α} {cs : List Value}, d.M w base ok1 x cs → d.M w base ok2 x cs) (h : d.R e w base ok v xs) (hok : ∀ k, v.ownBlock = some k → ok k → ok' k) : d.R e w base ok' v xs := by
 obtain ⟨h0, inner, hown, hr⟩ := h
 exact ⟨fun k hk => hok k hk (h0 k hk), inner, hown, hr.z1k (fun _ _ hm => hd hm)⟩
theorem z5J {v1 v2 : Value} {n : Nat} (hlt : ∀ k, v1.ownBlock = some k → k < n) (hge : ∀ k, v2.ownBlock = some k → n ≤ k) : v1.ownBlock = none ∨ v1.ownBlock ≠ v2.ownBlock := by
 cases h : v1.ownBlock with
 | none => exact .inl rfl
 | some k => exact .inr (fun e => by have := hlt k h; have := hge k e.symm; omega)
theorem z7W {v1 v2 : Value} {n : Nat} (hge : ∀ k, v1.ownBlock = some k → n ≤ k) (hlt : ∀ k, v2.ownBlock = some k → k < n) : v1.ownBlock = none ∨ v1.ownBlock ≠ v2.ownBlock := by
 cases h : v1.ownBlock with
 | none => exact .inl rfl
 | some k => exact .inr (fun e => by have := hge k h; have := hlt k e.symm; omega)
theorem z8l {v1 v2 : Value} {k : Nat} (h : v1.ownBlock = none ∨ v1.ownBlock ≠ v2.ownBlock) (hk : v1.ownBlock = some k) : some k ≠ v2.ownBlock := by
 rcases h with h | h
 ·rw [h] at hk; cases hk
 ·rw [← hk]; exact h
theorem z4D {v1 v2 : Value} {k : Nat} (h : v1.ownBlock = none ∨ v1.ownBlock ≠ v2.ownBlock) (hk : v2.ownBlock = some k) : some k ≠ v1.ownBlock := by
 intro e
 rcases h with h | h
 ·rw [h] at e; cases e
 ·exact h (e.symm.trans hk.symm)
section
variable {P : Program} {ops : Array Oper} {rest : List Oper} {o : Oper} {a : Act} {Q : Exit → Act → World → Prop} {W : World}
theorem yq (hw : Region.wanted o (yielded ops a.tmps) = true) (h : wpList P ops Q ({ o with guard := none } :: rest) a W) : wpList P ops Q (o :: rest) a W := by
 have h1 : Region.wanted { o with guard := none } (yielded ops a.tmps) = true := rfl
 unfold wpList at h ⊢
 rw [if_pos h1] at h
 rw [if_pos hw]
 exact h
end
end Go.Proofs.PW

namespace Go.Proofs.FX
theorem yd (w : World) (a : Addr) (u v : Value) (h : (w.cell? a).isSome = true) : ((w.setCell a u).setCell a v).cell? a = some v :=
 World.cell?_setCell_same' _ _ _ (by rw [World.cell?_setCell_same' w a u h]; rfl)
theorem zV (a b : Nat) : ((a : Int) ≤ (a : Int) + (b : Int)) = True := eq_true (by omega)
end Go.Proofs.FX

