import Derived.Test.YtejhjmmdachijaaDoorQrP5
namespace Go.Av
set_option linter.unusedVariables false
set_option linter.unusedSimpArgs false
theorem both_small19 : ∀ i : Fin 256, z70 (List.getD hexD ((UInt8.ofNat i.val).toNat / 16) 0) (List.getD hexD ((UInt8.ofNat i.val).toNat % 16) 0) = (UInt8.ofNat i.val, true) := by decide +kernel
theorem both_back (c : UInt8) : z70 (List.getD hexD (c.toNat / 16) 0) (List.getD hexD (c.toNat % 16) 0) = (c, true) := of_fin (P := fun c => z70 (List.getD hexD (c.toNat / 16) 0) (List.getD hexD (c.toNat % 16) 0) = (c, true)) both_small19 c
theorem unesc_unit (c : UInt8) (e : Bool) (t : List UInt8) : unescS 0 (unitL c e ++ t) = (c :: (unescS 0 t).1, (unescS 0 t).2) := by
  unfold unitL
  cases hc : (((c != 61) && z41 c 4) || (!e && z41 c 2)) with
  | true =>
    obtain ⟨_, h2⟩ := of_fin (P := fun c => ∀ e : Bool, (((c != 61) && z41 c 4) || (!e && z41 c 2)) = true → z41 c 6 = true ∧ (c == 61) = false) plain_facts c e hc
    show (bif (z50 (c :: t) 0 61).2 then _ else (c :: (unescS 0 t).1, (unescS 0 t).2 + (bif c == 61 then 1 else 0)) : List UInt8 × Nat) = _
    rw [take_sign h2, cond_false, h2]
    rfl
  | false =>
    have hT : z50 (61 :: (List.getD hexD (c.toNat / 16) 0 :: List.getD hexD (c.toNat % 16) 0 :: t)) 0 61 = z70 (List.getD hexD (c.toNat / 16) 0) (List.getD hexD (c.toNat % 16) 0) := by
      unfold z50
      rw [dT (show (0 : Int) ≤ 0 by omega), dT (by simp only [List.length_cons]; omega)]
      rfl
    show unescS 0 (61 :: (List.getD hexD (c.toNat / 16) 0 :: List.getD hexD (c.toNat % 16) 0 :: t)) = _
    have e1 : unescS 0 (61 :: (List.getD hexD (c.toNat / 16) 0 :: List.getD hexD (c.toNat % 16) 0 :: t)) = (bif (z50 (61 :: (List.getD hexD (c.toNat / 16) 0 :: List.getD hexD (c.toNat % 16) 0 :: t)) 0 61).2 then
      ((z50 (61 :: (List.getD hexD (c.toNat / 16) 0 :: List.getD hexD (c.toNat % 16) 0 :: t)) 0 61).1 :: (unescS 2 (List.getD hexD (c.toNat / 16) 0 :: List.getD hexD (c.toNat % 16) 0 :: t)).1, (unescS 2 (List.getD hexD (c.toNat / 16) 0 :: List.getD hexD (c.toNat % 16) 0 :: t)).2)
      else (61 :: (unescS 0 (List.getD hexD (c.toNat / 16) 0 :: List.getD hexD (c.toNat % 16) 0 :: t)).1, (unescS 0 (List.getD hexD (c.toNat / 16) 0 :: List.getD hexD (c.toNat % 16) 0 :: t)).2 + (bif (61 : UInt8) == 61 then 1 else 0))) := rfl
    rw [e1, hT, both_back]
    rfl
theorem unit_brk_small : ∀ i : Fin 256, ∀ e : Bool, (unitL (UInt8.ofNat i.val) e).all (fun c => !(isBrk c)) = true := by decide +kernel
theorem unit_brk (c : UInt8) (e : Bool) : (unitL c e).all (fun c => !(isBrk c)) = true := of_fin (P := fun c => ∀ e : Bool, (unitL c e).all (fun c => !(isBrk c)) = true) unit_brk_small c e
theorem lines_plain : ∀ (u cur t : List UInt8), u.all (fun c => !(isBrk c)) = true → linesS false cur (u ++ t) = linesS false (cur ++ u) t
  | [], cur, t, _ => by rw [List.append_nil]; rfl
  | x :: r, cur, t, h => by
    rw [List.all_cons, Bool.and_eq_true, Bool.not_eq_true'] at h
    show (bif isBrk x then _ else linesS false (cur ++ [x]) (r ++ t)) = _
    rw [h.1, cond_false, lines_plain r _ t h.2, List.append_assoc]
    rfl
theorem lines_hard (cur t : List UInt8) : linesS false cur ([13, 10] ++ t) = (cur, [13, 10]) :: linesS false [] t := rfl
theorem lines_soft (cur t : List UInt8) : linesS false cur ([61, 13, 10] ++ t) = (cur ++ [61], [13, 10]) :: linesS false [] t := rfl
def Inv19 (p : Page) (b : Bool) (out : List UInt8) : Prop := ∃ pre cur v, out = pre ++ v ∧ (∀ t, (linesS false [] (p.1 ++ t)).flatMap readLn = pre ++ (linesS false cur t).flatMap readLn) ∧
  (∀ t, strangeN (linesS false [] (p.1 ++ t)) = strangeN (linesS false cur t)) ∧ (∀ t, unescS 0 (cur ++ t) = (v ++ (unescS 0 t).1, (unescS 0 t).2)) ∧ (cur.length : Int) = p.2.1 ∧ endsOk cur = true ∧ (b = true → lastBlank cur = false)
theorem unesc_whole {cur v : List UInt8} (h : ∀ t, unescS 0 (cur ++ t) = (v ++ (unescS 0 t).1, (unescS 0 t).2)) : unescS 0 cur = (v, 0) := by
  have := h []
  rw [List.append_nil] at this
  rw [this]
  show (v ++ [], 0) = _
  rw [List.append_nil]
theorem line_soft {cur v : List UInt8} (h : unescS 0 cur = (v, 0)) : z25 (cur ++ [61]) = (v, true) ∧ strangeL (cur ++ [61]) = 0 := by
  have e1 : dropR blank (cur ++ [61]) = cur ++ [61] := by rw [dropR_snoc]; rfl
  have e2 : softEnd (cur ++ [61]) = true := by unfold softEnd; rw [List.getLast?_append]; rfl
  have e3 : bareL (cur ++ [61]) = cur := by unfold bareL; rw [e1, e2, cond_true, List.dropLast_concat]
  unfold z25 strangeL
  rw [e3, e1, e2, h]
  exact ⟨rfl, rfl⟩
theorem blank_is : ∀ i : Fin 256, z41 (UInt8.ofNat i.val) 2 = blank (UInt8.ofNat i.val) := by decide +kernel
theorem line_hard {cur v : List UInt8} (h : unescS 0 cur = (v, 0)) (h1 : endsOk cur = true) (h2 : lastBlank cur = false) : z25 cur = (v, false) ∧ strangeL cur = 0 := by
  have e1 : dropR blank cur = cur := dropR_last fun c hc => by
    unfold lastBlank at h2; rw [hc] at h2
    rw [← of_fin (P := fun c => z41 c 2 = blank c) blank_is c]; exact h2
  have e2 : softEnd cur = false := by
    unfold softEnd
    unfold endsOk at h1
    cases hc : cur.getLast? with
    | none => rfl
    | some c =>
      rw [hc] at h1
      have h1' : ((c != 61) && (c != 13)) = true := h1
      rw [Bool.and_eq_true] at h1'
      show (some c == some 61) = false
      simpa [bne] using h1'.1
  have e3 : bareL cur = cur := by unfold bareL; rw [e1, e2]; rfl
  unfold z25 strangeL
  rw [e3, e1, e2, h]
  exact ⟨rfl, rfl⟩
theorem inv19_end {p : Page} {b soft : Bool} {out : List UInt8} (h : Inv19 p b out) (hb : soft = true ∨ b = true) : Inv19 (pEnd p soft) true (bif soft then out else out ++ [13, 10]) := by
  obtain ⟨pre, cur, v, h1, h2, h3, h4, h5, h6, h7⟩ := h
  have hw := unesc_whole h4
  have h4' : ∀ t, unescS 0 ([] ++ t) = (([] : List UInt8) ++ (unescS 0 t).1, (unescS 0 t).2) := fun t => rfl
  cases soft with
  | true =>
    obtain ⟨g1, g2⟩ := line_soft hw
    refine ⟨out, [], [], (List.append_nil _).symm, fun t => ?_, fun t => ?_, h4', rfl, rfl, fun _ => rfl⟩
    · show (linesS false [] ((p.1 ++ [61, 13, 10]) ++ t)).flatMap readLn = _
      rw [List.append_assoc, h2, lines_soft, List.flatMap_cons]
      have e : readLn (cur ++ [61], [13, 10]) = v := by unfold readLn; rw [g1]; exact List.append_nil _
      rw [e, h1]
      simp only [List.append_assoc]
    · show strangeN (linesS false [] ((p.1 ++ [61, 13, 10]) ++ t)) = _
      rw [List.append_assoc, h3, lines_soft]
      show strangeL (cur ++ [61]) + _ = _
      rw [g2, Nat.zero_add]
      rfl
  | false =>
    obtain ⟨g1, g2⟩ := line_hard hw h6 (h7 (hb.resolve_left (by decide)))
    refine ⟨out ++ [13, 10], [], [], (List.append_nil _).symm, fun t => ?_, fun t => ?_, h4', rfl, rfl, fun _ => rfl⟩
    · show (linesS false [] ((p.1 ++ [13, 10]) ++ t)).flatMap readLn = _
      rw [List.append_assoc, h2, lines_hard, List.flatMap_cons]
      have e : readLn (cur, [13, 10]) = v ++ [13, 10] := by unfold readLn; rw [g1]; rfl
      rw [e, h1]
      simp only [List.append_assoc]
    · show strangeN (linesS false [] ((p.1 ++ [13, 10]) ++ t)) = _
      rw [List.append_assoc, h3, lines_hard]
      show strangeL cur + _ = _
      rw [g2, Nat.zero_add]
      rfl
theorem inv19_put {p : Page} {b : Bool} {out : List UInt8} (h : Inv19 p b out) (c : UInt8) (e : Bool) : Inv19 (pPut p (unitL c e)) e (out ++ [c]) := by
  have key : ∀ (q : Page) (b : Bool), Inv19 q b out → Inv19 (q.1 ++ unitL c e, (q.2.1 + ((unitL c e).length : Nat), ())) e (out ++ [c]) := fun q b ⟨pre, cur, v, h1, h2, h3, h4, h5, h6, _⟩ => by
    have hne : unitL c e ≠ [] := by have := (unit_len c e).2; intro hh; rw [hh] at this; cases this
    refine ⟨pre, cur ++ unitL c e, v ++ [c], by rw [h1, List.append_assoc], fun t => ?_, fun t => ?_, fun t => ?_, ?_, endsOk_app _ hne (unit_facts c e).2, fun he => ?_⟩
    · show (linesS false [] ((q.1 ++ unitL c e) ++ t)).flatMap readLn = _
      rw [List.append_assoc, h2, lines_plain _ _ _ (unit_brk c e)]
    · show strangeN (linesS false [] ((q.1 ++ unitL c e) ++ t)) = _
      rw [List.append_assoc, h3, lines_plain _ _ _ (unit_brk c e)]
    · rw [List.append_assoc, h4, unesc_unit, List.append_assoc]
      rfl
    · show (((cur ++ unitL c e).length : Nat) : Int) = q.2.1 + _
      rw [List.length_append]; omega
    · subst he
      rw [lastBlank_app cur hne]; exact (blank_of c).1
  unfold pPut
  cases decide (75 < p.2.1 + (((unitL c e).length : Nat) : Int))
  · exact key p b h
  · exact key (pEnd p true) true (inv19_end h (.inl rfl))
theorem inv19_weak {p : Page} {b : Bool} {out : List UInt8} (h : Inv19 p true out) : Inv19 p b out := by
  obtain ⟨pre, cur, v, h1, h2, h3, h4, h5, h6, h7⟩ := h
  exact ⟨pre, cur, v, h1, h2, h3, h4, h5, h6, fun _ => h7 rfl⟩
theorem inv19_lay : ∀ (s : List UInt8) (k : Nat) (p : Page) (out : List UInt8), Inv19 p (decide (0 < brk (s.drop k))) out → ∃ b, Inv19 (layS k s p) b (out ++ brksS k s)
  | [], 0, p, out, h => ⟨_, by rw [show brksS 0 [] = [] from rfl, List.append_nil]; exact h⟩
  | [], k + 1, p, out, h => ⟨_, by rw [show brksS (k + 1) [] = [] from rfl, List.append_nil]; exact h⟩
  | x :: r, k + 1, p, out, h => inv19_lay r k p out h
  | x :: r, 0, p, out, h => by
    have h' : Inv19 p (decide (0 < brk (x :: r))) out := h
    cases hb : brk (x :: r) with
    | zero =>
      rw [show layS 0 (x :: r) p = (match brk (x :: r) with | 0 => layS 0 r (pPut p (unitL x (decide (0 < brk r)))) | k + 1 => layS k r (pEnd p false)) from rfl,
        show brksS 0 (x :: r) = (match brk (x :: r) with | 0 => x :: brksS 0 r | k + 1 => 13 :: 10 :: brksS k r) from rfl, hb]
      obtain ⟨b, hb⟩ := inv19_lay r 0 _ _ (inv19_put h' x (decide (0 < brk r)))
      rw [List.append_assoc] at hb
      exact ⟨b, hb⟩
    | succ k =>
      rw [show layS 0 (x :: r) p = (match brk (x :: r) with | 0 => layS 0 r (pPut p (unitL x (decide (0 < brk r)))) | k + 1 => layS k r (pEnd p false)) from rfl,
        show brksS 0 (x :: r) = (match brk (x :: r) with | 0 => x :: brksS 0 r | k + 1 => 13 :: 10 :: brksS k r) from rfl, hb]
      rw [hb, dT (by omega)] at h'
      obtain ⟨b, hb⟩ := inv19_lay r k _ _ (inv19_weak (inv19_end h' (.inr rfl)))
      have e : (bif false then out else out ++ [13, 10]) ++ brksS k r = out ++ (13 :: 10 :: brksS k r) := by
        show (out ++ [13, 10]) ++ _ = _
        rw [List.append_assoc]; rfl
      rw [e] at hb
      exact ⟨b, hb⟩
theorem inv19_start : Inv19 ([], (0, ())) true [] := ⟨[], [], [], rfl, fun _ => rfl, fun _ => rfl, fun _ => rfl, rfl, rfl, fun _ => rfl⟩
theorem inv19_done {q : Page} {b : Bool} {out : List UInt8} (h : Inv19 q b out) (h0 : q.2.1 = 0) : readG q.1 = out ∧ strangeG q.1 = 0 := by
  obtain ⟨pre, cur, v, h1, h2, h3, h4, h5, h6, h7⟩ := h
  have hc : cur = [] := List.eq_nil_of_length_eq_zero (by omega)
  subst hc
  have hv : v = [] := by
    have := congrArg Prod.fst (h4 [])
    simpa [unescS] using this.symm
  subst hv
  have g2 := h2 []
  have g3 := h3 []
  rw [List.append_nil] at g2 g3
  exact ⟨by unfold readG; rw [g2, h1]; rfl, by unfold strangeG; rw [g3]; rfl⟩
theorem read_lay (s : List UInt8) : z27 (z16 s) = brksS 0 s ∧ z31 (z16 s) = 0 := by
  obtain ⟨b, h⟩ := inv19_lay s 0 ([], (0, ())) [] (inv19_weak inv19_start)
  rw [List.nil_append] at h
  have key : readG (z16 s) = brksS 0 s ∧ strangeG (z16 s) = 0 := by
    unfold z16 pDone
    by_cases hp : 0 < (layS 0 s ([], (0, ()))).2.1
    · rw [dT hp]
      exact inv19_done (inv19_end (soft := true) h (.inl rfl)) rfl
    · rw [dF hp]
      refine inv19_done h ?_
      obtain ⟨_, cur, _, _, _, _, _, h5, _⟩ := h
      omega
  exact ⟨key.1, by show ((strangeG (z16 s) : Nat) : Int) = 0; rw [key.2]; rfl⟩
theorem z10_math : ∀ (s0 : List UInt8), ∃ n, z10_sh n s0 = z10_ret (z10 s0) := fun s => ⟨0, by
  unfold z10_sh
  by_cases hl : (1000 : Int) < ((s.length : Nat) : Int)
  · rw [dT hl]; rfl
  · have hk : lenOk s = true := lenOk_of (by omega)
    have h1 := lay_len s (by omega)
    have h2 : (brksS 0 s).length ≤ 2 * s.length := brks_len s 0
    obtain ⟨r1, r2⟩ := read_lay s
    have hw : lenOk (z16 s) = true := lenOk_of (by omega)
    have e1 : z29 (z16 s) = (brksS 0 s, 0) := by unfold z29; rw [check_lay, r1]; rfl
    have e2 : z32 (z16 s) = z16 s := by unfold z32; rw [r1, qlay_brks]
    rw [dF hl, show z19_ok s = true from hk, show z19 s = z16 s from rfl, show z29_ok (z16 s) = true from hw, show z21_ok s = true from hk, show z21 s = brksS 0 s from rfl, e1, r1, e2, r2,
      show z18_ok (brksS 0 s) (brksS 0 s) = true from lenOk_of (by omega), like_self, show z27_ok (z16 s) = true from hw, show z32_ok (z16 s) = true from hw, show z31_ok (z16 s) = true from hw,
      show z18_ok (z16 s) (z16 s) = true from hw, like_self]
    rfl⟩
end Go.Av
