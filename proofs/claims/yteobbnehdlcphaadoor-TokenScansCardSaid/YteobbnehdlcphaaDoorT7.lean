/- The reference's Scan comes to the plain one. -/
import Derived.Test.YteobbnehdlcphaaDoorP6
import Derived.Test.YteobbnehdlcphaaDoorP7
import Derived.Test.YteobbnehdlcphaaDoorP8
import Derived.Test.YteobbnehdlcphaaDoorT6
namespace Go.Proofs.YteobbnehdlcphaaDoor.Tok
theorem word_len {t : Bs} (h : isWord t = true) : t.length ≤ 24 := by
  have h1 : t ∈ words := by unfold isWord at h; exact List.contains_iff_mem.1 h
  revert h1
  simp only [words, List.mem_cons, List.not_mem_nil, or_false]
  rintro (rfl | rfl | rfl | rfl | rfl | rfl | rfl | rfl | rfl | rfl | rfl | rfl | rfl | rfl | rfl | rfl | rfl) <;> decide
theorem next_name {c : UInt8} {r : Bs} (h : isLetter c = true) : next (c :: r) = (if isWord ((c :: r : Bs).takeWhile isIn) = true then 2 else 1, (c :: r : Bs).takeWhile isIn) := by
  unfold next
  rw [if_pos (show hd isLetter (c :: r) = true from h)]
theorem next_num {c : UInt8} {r : Bs} (h : isLetter c = false) (h2 : numN (c :: r) > 0) : next (c :: r) = (3, (c :: r : Bs).take (numN (c :: r))) := by
  unfold next
  rw [if_neg (by simp [hd, h]), if_pos h2]
theorem next_sign {c : UInt8} {r : Bs} (h : isLetter c = false) (h2 : ¬ numN (c :: r) > 0) : next (c :: r) = match signAt (c :: r) with | some s => (4, s) | none => (0, []) := by
  unfold next
  rw [if_neg (by simp [hd, h]), if_neg h2]
  rfl
end Go.Proofs.YteobbnehdlcphaaDoor.Tok
namespace Go.Proofs.YteobbnehdlcphaaDoor.P
open Go.RowKit Go.Proofs.YteobbnehdlcphaaDoorW.PrintWords Go.Proofs.YteobbnehdlcphaaDoorW.PrintLast Go.Proofs.YteobbnehdlcphaaDoorW.PrintMore
open Go.Proofs.YteobbnehdlcphaaDoor
attribute [local irreducible] bt
/-- Through a remark. -/
theorem ev_rem (s : ByteArray) (hs : s.size ≤ 20000) (acc : List S44) (i0 : Nat)
    (ih : ∀ i, i0 < i → i ≤ s.size → Ev (fun k => fluxionref04_Scan.l0 k s acc (i : Int)) (res acc (Tok.scanG (s.data.toList.drop i) i))) :
    ∀ (d i : Nat), s.size - i = d → i ≤ s.size → i0 < i → Ev (fun k => fluxionref04_Scan.l1 k s acc (i : Int)) (res acc (Tok.scanG ((s.data.toList.drop i).dropWhile Tok.isRem) (i + Tok.wl Tok.isRem (s.data.toList.drop i)))) := by
  have leave : ∀ i : Nat, ∀ x, Ev (fun k => fluxionref04_Scan.l0 k s acc (i : Int)) x → Ev (fun k => fluxionref04_Scan.j2 k s acc (i : Int) false) x := fun i x h => by
    refine Ev.step (fun k => ?_) h
    simp only [fluxionref04_Scan.j2]
    rw [if_neg (by decide)]
  intro d
  induction d with
  | zero =>
    intro i h1 h2 h3
    have hd : s.data.toList.drop i = [] := List.drop_of_length_le (by rw [len_eq]; omega)
    have h4 := ih i h3 h2
    rw [hd] at h4 ⊢
    refine Ev.step (fun k => ?_) (leave i _ h4)
    simp only [fluxionref04_Scan.l1]
    rw [if_neg (by omega)]
  | succ d hd1 =>
    intro i h1 h2 h3
    cases hd : s.data.toList.drop i with
    | nil => have := drop_nil_of hd h2; omega
    | cons c r =>
      obtain ⟨hb, hi⟩ := bt_of hd
      have hr := drop_succ hd
      have h10 := byte_ne c 10 (by decide)
      have step : ∀ v x, (c != 10) = v → Ev (fun k => fluxionref04_Scan.j2 k s acc (i : Int) v) x → Ev (fun k => fluxionref04_Scan.l1 k s acc (i : Int)) x := fun v x hv h => by
        refine Ev.step (fun k => ?_) h
        simp only [fluxionref04_Scan.l1]
        rw [if_pos (by omega), if_pos (by omega), hb, ← hv]
        congr 1
        rw [bne, bne]
        exact congrArg Bool.not (byte_eq c 10 (by decide))
      by_cases hc : c = 10
      · subst hc
        have hrm : Tok.isRem 10 = false := by decide
        have h4 := ih i h3 h2
        rw [hd] at h4
        rw [List.dropWhile_cons, hrm, Tok.wl_neg r hrm]
        exact step false _ (by decide) (leave i _ h4)
      · have hne : (c != 10) = true := by simp [hc]
        refine step true _ hne ?_
        cases ha : Tok.isAllowed c with
        | true =>
          have hrm : Tok.isRem c = true := by unfold Tok.isRem; rw [hne, ha]; rfl
          have h5 := hd1 (i + 1) (by omega) (by omega) (by omega)
          rw [hr] at h5
          rw [List.dropWhile_cons, hrm, Tok.wl_pos r hrm, show i + (Tok.wl Tok.isRem r + 1) = i + 1 + Tok.wl Tok.isRem r by omega]
          refine Ev.step (fun k => ?_) h5
          simp only [fluxionref04_Scan.j2]
          rw [if_pos trivial, if_pos (by omega), if_pos (by omega), hb]
          refine bind_of (rallowed_f c) ?_
          rw [ha, if_pos rfl, w64 (by omega) (by omega)]
          rfl
        | false =>
          have hrm : Tok.isRem c = false := by unfold Tok.isRem; rw [ha, Bool.and_false]
          have hbl : Tok.isBlank c = false := by
            cases hbl : Tok.isBlank c with
            | false => rfl
            | true =>
              simp only [Tok.isBlank, Tok.isAllowed, Bool.or_eq_true, beq_iff_eq, Bool.or_eq_false_iff, beq_eq_false_iff_ne, Bool.and_eq_false_iff, decide_eq_false_iff_not] at hbl ha
              rcases hbl with h | h | h
              · subst h; exact absurd ha.1 (by decide)
              · exact absurd h ha.2.1
              · exact absurd h ha.2.2
          have h35 : c ≠ 35 := by rintro rfl; exact absurd ha (by decide)
          rw [List.dropWhile_cons, hrm, Tok.wl_neg r hrm]
          simp only [Bool.false_eq_true, if_false]
          rw [Tok.scanG_eq (c :: r) (i + 0) (Tok.skip_stay r hbl h35) (by simp), Tok.next_bad r ha, if_pos rfl]
          refine Ev.step (f := fun _ => some (([] : List S44), (i : Int), 5)) (fun k => ?_) (Ev.now _)
          simp only [fluxionref04_Scan.j2]
          rw [if_pos trivial, if_pos (by omega), if_pos (by omega), hb]
          refine bind_of (rallowed_f c) ?_
          rw [ha, if_neg (by decide)]
theorem ev_rscan (s : ByteArray) (hs : s.size ≤ 20000) : ∀ (d i : Nat) (acc : List S44), s.size - i = d → i ≤ s.size → acc.length ≤ i →
    Ev (fun k => fluxionref04_Scan.l0 k s acc (i : Int)) (res acc (Tok.scanG (s.data.toList.drop i) i)) := by
  have hsm : Sm s := Nat.le_trans hs (by decide)
  intro d
  induction d using Nat.strongRecOn with
  | _ d ih =>
    intro i acc h1 h2 h3
    have hout : acc.length < 4398046511104 := acc_out h3 h2 hs
    cases hd : s.data.toList.drop i with
    | nil =>
      have hj := drop_nil_of hd h2
      refine Ev.step (f := fun _ => some (acc ++ [(⟨5, (⟨#[]⟩ : ByteArray), (s.size : Int)⟩ : S44)], (0 : Int), (0 : Int))) (fun k => ?_) ?_
      · simp only [fluxionref04_Scan.l0]
        rw [if_neg (by omega), if_pos hout]
      · rw [Tok.scanG_nil, ← hj]
        exact Ev.now _
    | cons c r =>
      obtain ⟨hb, hi⟩ := bt_of hd
      have hr := drop_succ hd
      have wi : Aside0 (wrap64 ((i : Int) + 1) = ((i + 1 : Nat) : Int)) := ⟨by rw [w64 (by omega) (by omega)]; rfl⟩
      have c35 : ((c.toNat : Int) = 35) ↔ c = 35 := byte_ne c 35 (by decide)
      have C35 := Aside0.mk c35
      clear c35
      cases hbl : Tok.isBlank c with
      | true =>
        rw [Tok.scanG_blank r i hbl]
        have h5 := ih (s.size - (i + 1)) (by omega) (i + 1) acc rfl (by omega) (by omega)
        rw [hr] at h5
        refine Ev.step (fun k => ?_) h5
        simp only [fluxionref04_Scan.l0]
        rw [if_pos (by omega), if_pos (by omega), hb]
        refine bind_of (rblank_f c) ?_
        rw [hbl, if_pos rfl, wi.out]
      | false =>
        by_cases h35 : c = 35
        · subst h35
          have h5 := ev_rem s hs acc i (fun j hj1 hj2 => ih (s.size - j) (by omega) j acc rfl hj2 (by omega)) (s.size - (i + 1)) (i + 1) rfl (by omega) (by omega)
          rw [hr] at h5
          rw [Tok.scanG_hash r i, List.dropWhile_cons, Tok.rem_hash, Tok.wl_pos r Tok.rem_hash, show i + (Tok.wl Tok.isRem r + 1) = i + 1 + Tok.wl Tok.isRem r by omega]
          have h6 : Ev (fun k => fluxionref04_Scan.j2 k s acc (i : Int) true) (res acc (Tok.scanG (r.dropWhile Tok.isRem) (i + 1 + Tok.wl Tok.isRem r))) := by
            refine Ev.step (fun k => ?_) h5
            simp only [fluxionref04_Scan.j2]
            rw [if_pos trivial, if_pos (by omega), if_pos (by omega), hb]
            refine bind_of (rallowed_f 35) ?_
            rw [show Tok.isAllowed 35 = true from by decide, if_pos rfl, wi.out]
          have h7 : Ev (fun k => fluxionref04_Scan.l1 k s acc (i : Int)) (res acc (Tok.scanG (r.dropWhile Tok.isRem) (i + 1 + Tok.wl Tok.isRem r))) := by
            refine Ev.step (fun k => ?_) h6
            simp only [fluxionref04_Scan.l1]
            rw [if_pos (by omega), if_pos (by omega), hb]
            rfl
          refine Ev.step (fun k => ?_) h7
          simp only [fluxionref04_Scan.l0]
          rw [if_pos (by omega), if_pos (by omega), hb]
          refine bind_of (rblank_f 35) ?_
          rw [hbl, if_neg (by decide), if_pos (C35.out.2 rfl)]
        · have hL : (c :: r : Tok.Bs).length = s.size - i := by rw [← hd, List.length_drop, len_eq]
          have hnl := Tok.next_len_le (c :: r)
          have hnt := Tok.next_text (c :: r)
          rw [hL] at hnl
          rw [Tok.scanG_eq (c :: r) i (Tok.skip_stay r hbl h35) (by simp)]
          obtain ⟨K1, e1⟩ := ev_rname s hsm i h2
          obtain ⟨K2, e2⟩ := ev_rnumber s hsm i h2
          obtain ⟨K3, e3⟩ := ev_rsign s hsm i h2
          dsimp only at e1 e2 e3
          rw [hd] at e1 e2 e3
          -- the common end: the token is put away, and the loop goes on
          have hend : ∀ nk nt, Tok.next (c :: r) = (nk, nt) → nk ≠ 0 → ∃ K, ∀ m, K ≤ m → ∀ x, fluxionref04_Scan.j4 m s acc (i : Int) (nt.length : Int) nk x (i : Int) = some (res (acc ++ [toS ⟨nk, nt, i⟩]) (Tok.scanG ((c :: r : Tok.Bs).drop nt.length) (i + nt.length))) := by
            intro nk nt hnx hk0
            rw [hnx] at hnt hnl
            dsimp only at hnt hnl
            have htpos := (hnt hk0).2
            have hext := (hnt hk0).1
            have hilen : i + nt.length ≤ s.size := by omega
            obtain ⟨K4, e4⟩ := ih (s.size - (i + nt.length)) (by omega) (i + nt.length) (acc ++ [toS ⟨nk, nt, i⟩]) rfl hilen (acc_le h3 (Nat.le_refl _) htpos)
            dsimp only at e4
            rw [← List.drop_drop, hd] at e4
            have wk : Aside0 (wrap64 ((i : Int) + (nt.length : Int)) = ((i + nt.length : Nat) : Int)) := ⟨by rw [w64 (by omega) (by omega)]; omega⟩
            refine ⟨K4 + 1, fun k hk x => ?_⟩
            obtain ⟨m, rfl⟩ : ∃ m, k = m + 1 := ⟨k - 1, by omega⟩
            simp only [fluxionref04_Scan.j4]
            rw [wk.out, if_pos (by omega), if_pos (by omega), if_pos (by omega), if_pos hout, Int.toNat_natCast, Int.toNat_natCast]
            have hx : s.extract i (i + nt.length) = toB nt := toB_inj (by
              rw [ext_mid, hd, Nat.add_sub_cancel_left, toB_list, hext]
              simp)
            rw [hx]
            exact e4 m (by omega)
          cases hl : Tok.isLetter c with
          | true =>
            have hnx := Tok.next_name (r := r) hl
            have hnm : Tok.nameN (c :: r) = ((c :: r : Tok.Bs).takeWhile Tok.isIn).length := by unfold Tok.nameN; rw [if_pos (show Tok.hd Tok.isLetter (c :: r) = true from hl)]; rfl
            have hpos : 0 < ((c :: r : Tok.Bs).takeWhile Tok.isIn).length := by rw [List.takeWhile_cons, Tok.letter_in hl]; simp
            have hnle := Tok.wl_le Tok.isIn (c :: r)
            have htk := Tok.take_wl Tok.isIn (c :: r)
            unfold Tok.wl at hnle htk
            rw [hL] at hnle
            rw [hnm] at e1
            generalize (c :: r : Tok.Bs).takeWhile Tok.isIn = nt at *
            have wk : Aside0 (wrap64 ((i : Int) + (nt.length : Int)) = ((i + nt.length : Nat) : Int)) := ⟨by rw [w64 (by omega) (by omega)]; omega⟩
            obtain ⟨K5, e5⟩ := ev_rIsWord (s.extract i (i + nt.length))
            dsimp only at e5
            rw [ext_mid, hd, Nat.add_sub_cancel_left, htk] at e5
            have hbody : ∀ m, K1 ≤ m → K5 ≤ m → fluxionref04_Scan.l0 (m + 1) s acc (i : Int) = fluxionref04_Scan.j3 m s acc (i : Int) (nt.length : Int) (if Tok.isWord nt = true then 2 else 1) (⟨#[]⟩ : ByteArray) (i : Int) := by
              intro m hm1 hm5
              simp only [fluxionref04_Scan.l0]
              rw [if_pos (by omega), if_pos (by omega), hb]
              refine bind_of (rblank_f c) ?_
              rw [hbl, if_neg (by decide), if_neg (fun h => h35 (C35.out.1 h))]
              refine bind_of (e1 m hm1) ?_
              rw [if_pos (by omega)]
              refine bind_of (e1 m hm1) ?_
              rw [wk.out, if_pos (by omega), if_pos (by omega), Int.toNat_natCast, Int.toNat_natCast]
              refine bind_of (e5 m hm5) ?_
              cases Tok.isWord nt <;> rfl
            have hk0 : (if Tok.isWord nt = true then (2 : Int) else 1) ≠ 0 := by split <;> decide
            obtain ⟨K6, e6⟩ := hend _ _ hnx hk0
            rw [hnx]
            dsimp only
            rw [if_neg hk0]
            by_cases hbig : nt.length > 24
            · have hw : Tok.isWord nt = false := by
                cases hw : Tok.isWord nt with
                | false => rfl
                | true => have := Tok.word_len hw; omega
              rw [if_pos ⟨hbig, by rw [hw]; rfl⟩]
              refine ⟨K1 + K5 + 2, fun k hk => ?_⟩
              obtain ⟨m, rfl⟩ : ∃ m, k = m + 1 + 1 := ⟨k - 2, by omega⟩
              show fluxionref04_Scan.l0 (m + 1 + 1) s acc (i : Int) = _
              rw [hbody (m + 1) (by omega) (by omega)]
              simp only [fluxionref04_Scan.j3]
              rw [if_pos (by omega)]
              rfl
            · rw [if_neg (fun h => hbig h.1), res_cons]
              refine ⟨K1 + K5 + K6 + 2, fun k hk => ?_⟩
              obtain ⟨m, rfl⟩ : ∃ m, k = m + 1 + 1 := ⟨k - 2, by omega⟩
              show fluxionref04_Scan.l0 (m + 1 + 1) s acc (i : Int) = _
              rw [hbody (m + 1) (by omega) (by omega)]
              simp only [fluxionref04_Scan.j3]
              rw [if_neg (by omega)]
              exact e6 m (by omega) _
          | false =>
            have hnm : Tok.nameN (c :: r) = 0 := by unfold Tok.nameN; rw [if_neg (by simp [Tok.hd, hl])]
            rw [hnm] at e1
            have hbody : ∀ m, K1 ≤ m → fluxionref04_Scan.l0 (m + 1) s acc (i : Int) = ((fluxionref04_number.f m s (i : Int)).bind fun t185 => (if t185 > 0 then ((fluxionref04_number.f m s (i : Int)).bind fun t186 => (fluxionref04_Scan.j4 m s acc (i : Int) t186 3 (⟨#[]⟩ : ByteArray) (i : Int))) else ((fluxionref04_sign.f m s (i : Int)).bind fun t187 => (if t187 > 0 then ((fluxionref04_sign.f m s (i : Int)).bind fun t188 => (fluxionref04_Scan.j4 m s acc (i : Int) t188 4 (⟨#[]⟩ : ByteArray) (i : Int))) else (some (([] : List (S44)), (i : Int), 5)))))) := by
              intro m hm1
              simp only [fluxionref04_Scan.l0]
              rw [if_pos (by omega), if_pos (by omega), hb]
              refine bind_of (rblank_f c) ?_
              rw [hbl, if_neg (by decide), if_neg (fun h => h35 (C35.out.1 h))]
              refine bind_of (e1 m hm1) ?_
              rw [if_neg (by decide)]
            by_cases hnum : Tok.numN (c :: r) > 0
            · have hnx := Tok.next_num (r := r) hl hnum
              have hnle := Tok.numN_le (c :: r)
              have hlen : ((c :: r : Tok.Bs).take (Tok.numN (c :: r))).length = Tok.numN (c :: r) := by rw [List.length_take]; omega
              obtain ⟨K6, e6⟩ := hend _ _ hnx (by decide)
              rw [hlen] at e6
              rw [hnx]
              dsimp only
              rw [if_neg (by decide), if_neg (fun h => absurd h.2 (by decide)), res_cons, hlen]
              refine ⟨K1 + K2 + K6 + 1, fun k hk => ?_⟩
              obtain ⟨m, rfl⟩ : ∃ m, k = m + 1 := ⟨k - 1, by omega⟩
              show fluxionref04_Scan.l0 (m + 1) s acc (i : Int) = _
              rw [hbody m (by omega)]
              refine bind_of (e2 m (by omega)) ?_
              rw [if_pos (by omega)]
              refine bind_of (e2 m (by omega)) ?_
              exact e6 m (by omega) _
            · have hnx := Tok.next_sign (r := r) hl hnum
              have hn0 : Tok.numN (c :: r) = 0 := by omega
              rw [hn0] at e2
              unfold Tok.signN at e3
              cases hsg : Tok.signAt (c :: r) with
              | none =>
                rw [hsg] at hnx e3
                dsimp only at hnx e3
                rw [hnx, if_pos rfl]
                refine ⟨K1 + K2 + K3 + 1, fun k hk => ?_⟩
                obtain ⟨m, rfl⟩ : ∃ m, k = m + 1 := ⟨k - 1, by omega⟩
                show fluxionref04_Scan.l0 (m + 1) s acc (i : Int) = _
                rw [hbody m (by omega)]
                refine bind_of (e2 m (by omega)) ?_
                rw [if_neg (by decide)]
                refine bind_of (e3 m (by omega)) ?_
                rw [if_neg (by decide)]
                rfl
              | some t =>
                rw [hsg] at hnx e3
                dsimp only at hnx e3
                have htp := (Tok.signAt_some hsg).2.2
                obtain ⟨K6, e6⟩ := hend _ _ hnx (by decide)
                rw [hnx]
                dsimp only
                rw [if_neg (by decide), if_neg (fun h => absurd h.2 (by decide)), res_cons]
                refine ⟨K1 + K2 + K3 + K6 + 1, fun k hk => ?_⟩
                obtain ⟨m, rfl⟩ : ∃ m, k = m + 1 := ⟨k - 1, by omega⟩
                show fluxionref04_Scan.l0 (m + 1) s acc (i : Int) = _
                rw [hbody m (by omega)]
                refine bind_of (e2 m (by omega)) ?_
                rw [if_neg (by decide)]
                refine bind_of (e3 m (by omega)) ?_
                rw [if_pos (by omega)]
                refine bind_of (e3 m (by omega)) ?_
                exact e6 m (by omega) _
theorem ev_rScan (s : ByteArray) (hs : s.size ≤ 20000) : Ev (fun k => fluxionref04_Scan.f k s) (res [] (Tok.scanG s.data.toList 0)) := by
  obtain ⟨K, e⟩ := ev_rscan s hs (s.size - 0) 0 [] rfl (Nat.zero_le _) (Nat.zero_le _)
  dsimp only at e
  rw [List.drop_zero] at e
  refine ⟨K, fun k hk => ?_⟩
  show fluxionref04_Scan.f k s = _
  unfold fluxionref04_Scan.f
  rw [if_neg (by omega)]
  exact e k hk
theorem rScan_long (s : ByteArray) (hs : ¬ s.size ≤ 20000) (k : Nat) : fluxionref04_Scan.f k s = some (([] : List S44), 0, 3) := by
  unfold fluxionref04_Scan.f
  rw [if_pos (by omega)]
end Go.Proofs.YteobbnehdlcphaaDoor.P
