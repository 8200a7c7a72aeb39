/-
  What is laid is right: checked.
-/
import Derived.Test.YtejhjmmdachijaaDoorQpP12
namespace Go.Av
theorem check_all : ∀ l : List (List UInt8), (∀ x ∈ l, x.length ≤ 76 ∧ qpage_right x = true) → checkL l true = 0
  | [], _ => rfl
  | x :: l, h => by
    rw [checkL_cons x l true (fun _ => rfl), dF (by have := (h x (by simp)).1; omega), (h x (by simp)).2]
    exact check_all l fun y hy => h y (by simp [hy])
theorem check_done {q : Page} {b : Bool} (h : Inv18 q b) (h0 : q.2.1 = 0) : qpage_Check q.1 = 0 := by
  obtain ⟨Ls, cur, h1, h2, h3, _⟩ := h
  have hc : cur = [] := List.eq_nil_of_length_eq_zero (by omega)
  subst hc
  unfold qpage_Check ref18_Lines
  rw [h1, linesEnd_last, if_pos rfl]
  exact check_all Ls h2
theorem inv_start : Inv18 ([], (0, ())) true := ⟨[], [], rfl, (fun x hx => by cases hx), rfl, by show (0 : Int) ≤ 75; omega, fun _ => rfl, rfl, fun _ => rfl⟩
theorem check_lay (s : List UInt8) : qpage_Check (qpage_Lay s) = 0 := by
  obtain ⟨b, h⟩ := inv_lay s 0 ([], (0, ())) (inv_weak inv_start)
  unfold qpage_Lay pDone
  by_cases hp : 0 < (layS 0 s ([], (0, ()))).2.1
  · rw [dT hp]
    exact check_done (inv_end h (.inl rfl)) rfl
  · rw [dF hp]
    refine check_done h ?_
    obtain ⟨_, cur, _, _, h3, _⟩ := h
    omega
def okc (c : UInt8) : Bool := (c == 13) || (c == 10) || (c == 9) || (decide (32 ≤ c) && decide (c ≤ 126))
theorem unit_okc : ∀ i : Fin 256, ∀ e : Bool, (unitL (UInt8.ofNat i.val) e).all okc = true := by decide +kernel
/-- What is kept: the octets; a line that is empty stands behind a line end. -/
def Inv2 (p : Page) : Prop := p.1.all okc = true ∧ 0 ≤ p.2.1 ∧ (p.2.1 = 0 → p.1 = [] ∨ p.1.getLast? = some 10)
theorem inv2_end {p : Page} (h : Inv2 p) (soft : Bool) : Inv2 (pEnd p soft) ∧ p.1.length + 1 ≤ (pEnd p soft).1.length := by
  unfold pEnd
  cases soft
  · refine ⟨⟨by show (p.1 ++ [13, 10]).all okc = true; rw [List.all_append, h.1]; rfl, Int.le_refl _, fun _ => .inr (by show (p.1 ++ [13, 10]).getLast? = _; rw [List.getLast?_append]; rfl)⟩, ?_⟩
    show _ ≤ (p.1 ++ [13, 10]).length
    rw [List.length_append]; simp
  · refine ⟨⟨by show (p.1 ++ [61, 13, 10]).all okc = true; rw [List.all_append, h.1]; rfl, Int.le_refl _, fun _ => .inr (by show (p.1 ++ [61, 13, 10]).getLast? = _; rw [List.getLast?_append]; rfl)⟩, ?_⟩
    show _ ≤ (p.1 ++ [61, 13, 10]).length
    rw [List.length_append]; simp
theorem inv2_put {p : Page} (h : Inv2 p) (c : UInt8) (e : Bool) : Inv2 (pPut p (unitL c e)) ∧ p.1.length + 1 ≤ (pPut p (unitL c e)).1.length := by
  have hu := unit_len c e
  have ha := of_fin (P := fun c => ∀ e : Bool, (unitL c e).all okc = true) unit_okc c e
  have key : ∀ q : Page, Inv2 q → p.1.length ≤ q.1.length → Inv2 (q.1 ++ unitL c e, (q.2.1 + ((unitL c e).length : Nat), ())) ∧ p.1.length + 1 ≤ (q.1 ++ unitL c e).length := fun q hq hl => by
    refine ⟨⟨by show (q.1 ++ unitL c e).all okc = true; rw [List.all_append, hq.1, ha]; rfl, by have := hq.2.1; show 0 ≤ q.2.1 + _; omega, fun h0 => ?_⟩, by rw [List.length_append]; omega⟩
    have h0' : q.2.1 + ((unitL c e).length : Nat) = (0 : Int) := h0
    have := hq.2.1
    omega
  unfold pPut
  cases decide (75 < p.2.1 + (((unitL c e).length : Nat) : Int))
  · exact key p h (Nat.le_refl _)
  · have := inv2_end h true
    exact key (pEnd p true) this.1 (by omega)
theorem inv2_lay : ∀ (s : List UInt8) (k : Nat) (p : Page), Inv2 p → Inv2 (layS k s p) ∧ p.1.length ≤ (layS k s p).1.length ∧ (k = 0 → s ≠ [] → p.1.length + 1 ≤ (layS k s p).1.length)
  | [], 0, p, h => ⟨h, Nat.le_refl _, fun _ hh => absurd rfl hh⟩
  | [], k + 1, p, h => ⟨h, Nat.le_refl _, fun _ hh => absurd rfl hh⟩
  | x :: r, k + 1, p, h => by
    obtain ⟨h1, h2, _⟩ := inv2_lay r k p h
    exact ⟨h1, h2, fun hh => by cases hh⟩
  | x :: r, 0, p, h => by
    cases hb : brk (x :: r) with
    | zero =>
      rw [show layS 0 (x :: r) p = (match brk (x :: r) with | 0 => layS 0 r (pPut p (unitL x (decide (0 < brk r)))) | k + 1 => layS k r (pEnd p false)) from rfl, hb]
      obtain ⟨g1, g2⟩ := inv2_put h x (decide (0 < brk r))
      obtain ⟨h1, h2, _⟩ := inv2_lay r 0 _ g1
      exact ⟨h1, Nat.le_trans (by omega) h2, fun _ _ => Nat.le_trans g2 h2⟩
    | succ k =>
      rw [show layS 0 (x :: r) p = (match brk (x :: r) with | 0 => layS 0 r (pPut p (unitL x (decide (0 < brk r)))) | k + 1 => layS k r (pEnd p false)) from rfl, hb]
      obtain ⟨g1, g2⟩ := inv2_end h false
      obtain ⟨h1, h2, _⟩ := inv2_lay r k _ g1
      exact ⟨h1, Nat.le_trans (by omega) h2, fun _ _ => Nat.le_trans g2 h2⟩
end Go.Av
