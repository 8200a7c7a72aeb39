/-
  What is laid is right: each line.
-/
import Derived.Test.YtejhjmmdachijaaDoorQpP11
namespace Go.Av
theorem both_facts : ∀ i : Fin 256, (hexa_pair (List.getD hexD ((UInt8.ofNat i.val).toNat / 16) 0) (List.getD hexD ((UInt8.ofNat i.val).toNat % 16) 0)).2 = true ∧ hexa_Capital (hexa_both (UInt8.ofNat i.val)) = true ∧
    (octet_Is (List.getD hexD ((UInt8.ofNat i.val).toNat / 16) 0) 6 = true ∧ octet_Is (List.getD hexD ((UInt8.ofNat i.val).toNat % 16) 0) 6 = true) ∧ (List.getD hexD ((UInt8.ofNat i.val).toNat / 16) 0 == 61) = false ∧ (List.getD hexD ((UInt8.ofNat i.val).toNat % 16) 0 == 61) = false := by decide +kernel
theorem both_of (c : UInt8) : (hexa_pair (List.getD hexD (c.toNat / 16) 0) (List.getD hexD (c.toNat % 16) 0)).2 = true ∧ hexa_Capital (hexa_both c) = true ∧
    (octet_Is (List.getD hexD (c.toNat / 16) 0) 6 = true ∧ octet_Is (List.getD hexD (c.toNat % 16) 0) 6 = true) ∧ (List.getD hexD (c.toNat / 16) 0 == 61) = false ∧ (List.getD hexD (c.toNat % 16) 0 == 61) = false :=
  of_fin (P := fun c => (hexa_pair (List.getD hexD (c.toNat / 16) 0) (List.getD hexD (c.toNat % 16) 0)).2 = true ∧ hexa_Capital (hexa_both c) = true ∧
    (octet_Is (List.getD hexD (c.toNat / 16) 0) 6 = true ∧ octet_Is (List.getD hexD (c.toNat % 16) 0) 6 = true) ∧ (List.getD hexD (c.toNat / 16) 0 == 61) = false ∧ (List.getD hexD (c.toNat % 16) 0 == 61) = false) both_facts c
theorem right_one {x : UInt8} (h6 : octet_Is x 6 = true) (h61 : (x == 61) = false) (b : List UInt8) : rightS (x :: b) = rightS b := by
  rw [rightS_step, h6, h61]; rfl
theorem plain_facts : ∀ i : Fin 256, ∀ e : Bool, (((UInt8.ofNat i.val != 61) && octet_Is (UInt8.ofNat i.val) 4) || (!e && octet_Is (UInt8.ofNat i.val) 2)) = true → octet_Is (UInt8.ofNat i.val) 6 = true ∧ (UInt8.ofNat i.val == 61) = false := by decide +kernel
theorem right_unit (c : UInt8) (e : Bool) (b : List UInt8) : rightS (unitL c e ++ b) = rightS b := by
  unfold unitL
  cases hc : (((c != 61) && octet_Is c 4) || (!e && octet_Is c 2)) with
  | true =>
    obtain ⟨h1, h2⟩ := of_fin (P := fun c => ∀ e : Bool, (((c != 61) && octet_Is c 4) || (!e && octet_Is c 2)) = true → octet_Is c 6 = true ∧ (c == 61) = false) plain_facts c e hc
    exact right_one h1 h2 b
  | false =>
    obtain ⟨h1, h2, ⟨h3, h4⟩, h5, h6⟩ := both_of c
    show rightS (61 :: (List.getD hexD (c.toNat / 16) 0 :: List.getD hexD (c.toNat % 16) 0 :: b)) = _
    rw [rightS_step, right_one h3 h5, right_one h4 h6]
    have hT : hexa_Take (61 :: (List.getD hexD (c.toNat / 16) 0 :: List.getD hexD (c.toNat % 16) 0 :: b)) 0 61 = hexa_pair (List.getD hexD (c.toNat / 16) 0) (List.getD hexD (c.toNat % 16) 0) := by
      unfold hexa_Take
      rw [dT (show (0 : Int) ≤ 0 by omega), dT (by simp only [List.length_cons]; omega)]
      rfl
    rw [hT, h1, show (List.getD hexD (c.toNat / 16) 0 :: List.getD hexD (c.toNat % 16) 0 :: b).take 2 = hexa_both c from rfl, h2]
    rfl
theorem blank_small : ∀ i : Fin 256, lastBlank (unitL (UInt8.ofNat i.val) true) = false ∧ (∀ e : Bool, ∀ x ∈ unitL (UInt8.ofNat i.val) e, x ≠ 13) := by decide +kernel
theorem blank_of (c : UInt8) : lastBlank (unitL c true) = false ∧ (∀ e : Bool, ∀ x ∈ unitL c e, x ≠ 13) := of_fin (P := fun c => lastBlank (unitL c true) = false ∧ (∀ e : Bool, ∀ x ∈ unitL c e, x ≠ 13)) blank_small c
theorem lastBlank_app (a : List UInt8) {b : List UInt8} (hb : b ≠ []) : lastBlank (a ++ b) = lastBlank b := by
  unfold lastBlank
  rw [List.getLast?_append]
  cases hl : b.getLast? with
  | none => exact absurd (List.getLast?_eq_none_iff.1 hl) hb
  | some c => rfl
theorem endsOk_13 {a : List UInt8} (h : endsOk a = true) : a.getLast? ≠ some 13 := fun e => by
  unfold endsOk at h; rw [e] at h; exact absurd h (by decide)
/-- A page whose lines are right so far; 'b': a line end may stand next. -/
def Inv18 (p : Page) (b : Bool) : Prop := ∃ Ls cur, splitS [] p.1 = Ls ++ [cur] ∧ (∀ x ∈ Ls, x.length ≤ 76 ∧ qpage_right x = true) ∧ (cur.length : Int) = p.2.1 ∧ p.2.1 ≤ 75 ∧ (∀ t, rightS (cur ++ t) = rightS t) ∧ endsOk p.1 = true ∧ (b = true → lastBlank cur = false)
theorem inv_end {p : Page} {b soft : Bool} (h : Inv18 p b) (hb : soft = true ∨ b = true) : Inv18 (pEnd p soft) true := by
  obtain ⟨Ls, cur, h1, h2, h3, h4, h5, h6, h7⟩ := h
  have hr : ∀ t, rightS (([] : List UInt8) ++ t) = rightS t := fun _ => rfl
  cases soft with
  | true =>
    refine ⟨Ls ++ [cur ++ [61]], [], ?_, ?_, rfl, by show (0 : Int) ≤ 75; omega, hr, endsOk_app _ (by simp) (by decide), fun _ => rfl⟩
    · show splitS [] (p.1 ++ [61, 13, 10]) = _
      rw [split_app p.1 [] Ls cur _ h1 (endsOk_13 h6), split_soft, List.append_assoc]; rfl
    · intro x hx
      rw [List.mem_append, List.mem_singleton] at hx
      rcases hx with hx | rfl
      · exact h2 x hx
      · refine ⟨by rw [List.length_append, List.length_singleton]; omega, ?_⟩
        unfold qpage_right
        rw [h5, lastBlank_app cur (by simp)]
        decide
  | false =>
    have hb' : b = true := hb.resolve_left (by decide)
    refine ⟨Ls ++ [cur], [], ?_, ?_, rfl, by show (0 : Int) ≤ 75; omega, hr, endsOk_app _ (by simp) (by decide), fun _ => rfl⟩
    · show splitS [] (p.1 ++ [13, 10]) = _
      rw [split_app p.1 [] Ls cur _ h1 (endsOk_13 h6), split_crlf, List.append_assoc]; rfl
    · intro x hx
      rw [List.mem_append, List.mem_singleton] at hx
      rcases hx with hx | rfl
      · exact h2 x hx
      · refine ⟨by omega, ?_⟩
        unfold qpage_right
        have := h5 []
        rw [List.append_nil] at this
        rw [this, h7 hb']
        rfl
theorem inv_put {p : Page} {b : Bool} (h : Inv18 p b) (c : UInt8) (e : Bool) : Inv18 (pPut p (unitL c e)) e := by
  have key : ∀ (q : Page) (b : Bool), Inv18 q b → q.2.1 + ((unitL c e).length : Nat) ≤ 75 → Inv18 (q.1 ++ unitL c e, (q.2.1 + ((unitL c e).length : Nat), ())) e := fun q b ⟨Ls, cur, h1, h2, h3, h4, h5, h6, _⟩ hle => by
    have hne : unitL c e ≠ [] := by have := (unit_len c e).2; intro hh; rw [hh] at this; cases this
    refine ⟨Ls, cur ++ unitL c e, ?_, h2, ?_, hle, fun t => ?_, endsOk_app _ hne (unit_facts c e).2, fun he => ?_⟩
    · show splitS [] (q.1 ++ unitL c e) = _
      rw [split_app q.1 [] Ls cur _ h1 (endsOk_13 h6), split_plain _ _ ((blank_of c).2 e)]
    · show (((cur ++ unitL c e).length : Nat) : Int) = q.2.1 + _
      rw [List.length_append]; omega
    · rw [List.append_assoc, h5, right_unit]
    · subst he
      rw [lastBlank_app cur hne]; exact (blank_of c).1
  unfold pPut
  by_cases h75 : 75 < p.2.1 + (((unitL c e).length : Nat) : Int)
  · rw [dT h75]
    have hu := (unit_len c e).1
    exact key (pEnd p true) true (inv_end h (.inl rfl)) (by show (0 : Int) + _ ≤ 75; omega)
  · rw [dF h75]
    exact key p b h (by omega)
theorem inv_weak {p : Page} {b : Bool} (h : Inv18 p true) : Inv18 p b := by
  obtain ⟨Ls, cur, h1, h2, h3, h4, h5, h6, h7⟩ := h
  exact ⟨Ls, cur, h1, h2, h3, h4, h5, h6, fun _ => h7 rfl⟩
theorem inv_lay : ∀ (s : List UInt8) (k : Nat) (p : Page), Inv18 p (decide (0 < brk (s.drop k))) → ∃ b, Inv18 (layS k s p) b
  | [], 0, p, h => ⟨_, h⟩
  | [], k + 1, p, h => ⟨_, h⟩
  | x :: r, k + 1, p, h => inv_lay r k p h
  | x :: r, 0, p, h => by
    have h' : Inv18 p (decide (0 < brk (x :: r))) := h
    cases hb : brk (x :: r) with
    | zero =>
      rw [show layS 0 (x :: r) p = (match brk (x :: r) with | 0 => layS 0 r (pPut p (unitL x (decide (0 < brk r)))) | k + 1 => layS k r (pEnd p false)) from rfl, hb]
      exact inv_lay r 0 _ (inv_put h' x _)
    | succ k =>
      rw [show layS 0 (x :: r) p = (match brk (x :: r) with | 0 => layS 0 r (pPut p (unitL x (decide (0 < brk r)))) | k + 1 => layS k r (pEnd p false)) from rfl, hb]
      rw [hb, dT (by omega)] at h'
      exact inv_lay r k _ (inv_weak (inv_end h' (.inr rfl)))
end Go.Av
