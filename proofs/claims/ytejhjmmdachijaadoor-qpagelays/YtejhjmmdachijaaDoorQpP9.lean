/-
  Breaks: however they are laid.
-/
import Derived.Test.YtejhjmmdachijaaDoorQpP8
namespace Go.Av
theorem brk_zero {x : UInt8} {r : List UInt8} (h : brk (x :: r) = 0) : x ≠ 13 ∧ x ≠ 10 := by
  constructor
  · rintro rfl
    cases r with
    | nil => exact absurd h (by decide)
    | cons y r => have h' : (bif y == 10 then 2 else 1 : Nat) = 0 := h; revert h'; cases (y == 10) <;> decide
  · rintro rfl
    exact absurd (show (1 : Nat) = 0 from h) (by decide)
theorem brk_zero_of {x : UInt8} (r : List UInt8) (h : x ≠ 13 ∧ x ≠ 10) : brk (x :: r) = 0 := by
  show (bif x == 13 then _ else bif x == 10 then 1 else 0) = 0
  rw [show (x == 13) = false by simpa using h.1, show (x == 10) = false by simpa using h.2]
  rfl
theorem brks_zero {x : UInt8} {r : List UInt8} (h : brk (x :: r) = 0) : brksS 0 (x :: r) = x :: brksS 0 r := by
  rw [show brksS 0 (x :: r) = (match brk (x :: r) with | 0 => x :: brksS 0 r | k + 1 => 13 :: 10 :: brksS k r) from rfl, h]
theorem brks_succ {x : UInt8} {r : List UInt8} {k : Nat} (h : brk (x :: r) = k + 1) : brksS 0 (x :: r) = 13 :: 10 :: brksS k r := by
  rw [show brksS 0 (x :: r) = (match brk (x :: r) with | 0 => x :: brksS 0 r | k + 1 => 13 :: 10 :: brksS k r) from rfl, h]
theorem brks_brks : ∀ (s : List UInt8) (k : Nat), brksS 0 (brksS k s) = brksS k s
  | [], 0 => rfl
  | [], k + 1 => rfl
  | x :: r, k + 1 => brks_brks r k
  | x :: r, 0 => by
    cases hb : brk (x :: r) with
    | zero => rw [brks_zero hb, brks_zero (brk_zero_of _ (brk_zero hb)), brks_brks r 0]
    | succ k =>
      rw [brks_succ hb, brks_succ (k := 1) (show brk (13 :: 10 :: brksS k r) = 1 + 1 from rfl)]
      show 13 :: 10 :: brksS 0 (brksS k r) = _
      rw [brks_brks r k]
theorem lay_brks (s : List UInt8) (p : Page) : layS 0 (brksS 0 s) p = layS 0 s p := by
  rw [← ref_lay (brksS 0 s) 0 p, brks_brks, ref_lay]
theorem qlay_brks (s : List UInt8) : qpage_Lay (brksS 0 s) = qpage_Lay s := by unfold qpage_Lay; rw [lay_brks]
/-- A text that ends so that no soft end goes across. -/
def endsOk (a : List UInt8) : Bool := match a.getLast? with | none => true | some c => (c != 61) && (c != 13)
theorem occ_app : ∀ (a b : List UInt8), endsOk a = true → occ (a ++ b) = occ a + occ b
  | [], b, _ => by simp [occ]
  | [x], b, h => by
    have hx : x ≠ 61 := by
      rintro rfl; exact absurd h (by decide)
    show occ (x :: b) = occ [x] + occ b
    rw [occ_skip hx, occ_skip hx]
    simp [occ]
  | x :: y :: r, b, h => by
    have ih := occ_app (y :: r) b (by unfold endsOk at h ⊢; rwa [List.getLast?_cons_cons] at h)
    show (bif softB.isPrefixOf (x :: (y :: r ++ b)) then 1 else 0) + occ (y :: r ++ b) = (bif softB.isPrefixOf (x :: y :: r) then 1 else 0) + occ (y :: r) + occ b
    rw [ih]
    have hp : softB.isPrefixOf (x :: (y :: r ++ b)) = softB.isPrefixOf (x :: y :: r) := by
      cases r with
      | nil =>
        have hy : y ≠ 13 := by rintro rfl; exact absurd (show (((13 : UInt8) != 61) && ((13 : UInt8) != 13)) = true from h) (by decide)
        have e : ∀ t : List UInt8, softB.isPrefixOf (x :: y :: t) = false := fun t => by
          rw [← Bool.not_eq_true, pre_iff]
          rintro ⟨_, t', ht⟩
          simp only [List.cons.injEq] at ht
          exact hy ht.1
        rw [e, show y :: ([] : List UInt8) ++ b = y :: b from rfl, e]
      | cons z r =>
        rw [Bool.eq_iff_iff, pre_iff, pre_iff]
        simp
    rw [hp]
    omega
theorem unit_small : ∀ i : Fin 256, ∀ e : Bool, (occ (unitL (UInt8.ofNat i.val) e) = 0 ∧ (unitL (UInt8.ofNat i.val) e).count 10 = 0) ∧ endsOk (unitL (UInt8.ofNat i.val) e) = true := by decide +kernel
theorem unit_facts (c : UInt8) (e : Bool) : (occ (unitL c e) = 0 ∧ (unitL c e).count 10 = 0) ∧ endsOk (unitL c e) = true := of_fin (P := fun c => ∀ e : Bool, (occ (unitL c e) = 0 ∧ (unitL c e).count 10 = 0) ∧ endsOk (unitL c e) = true) unit_small c e
theorem endsOk_app (a : List UInt8) {b : List UInt8} (hb : b ≠ []) (h : endsOk b = true) : endsOk (a ++ b) = true := by
  unfold endsOk at h ⊢
  have e : (a ++ b).getLast? = b.getLast? := by
    rw [List.getLast?_append]
    cases hl : b.getLast? with
    | none => exact absurd (List.getLast?_eq_none_iff.1 hl) hb
    | some c => rfl
  rw [e]
  exact h
/-- What is kept of a page: how many hard ends it has. -/
def Kept10 (p : Page) (n : Nat) : Prop := endsOk p.1 = true ∧ p.1.count 10 = n + occ p.1
theorem kept_end {p : Page} {n : Nat} (h : Kept10 p n) (soft : Bool) : Kept10 (pEnd p soft) (n + bif soft then 0 else 1) := by
  obtain ⟨h1, h2⟩ := h
  unfold pEnd
  cases soft
  · refine ⟨endsOk_app _ (by simp) (by decide), ?_⟩
    show (p.1 ++ [13, 10]).count 10 = n + 1 + occ (p.1 ++ [13, 10])
    rw [occ_app _ _ h1, List.count_append, h2, show occ [13, 10] = 0 from rfl, show List.count (10 : UInt8) [13, 10] = 1 from rfl]
    omega
  · refine ⟨endsOk_app _ (by simp) (by decide), ?_⟩
    show (p.1 ++ [61, 13, 10]).count 10 = n + 0 + occ (p.1 ++ [61, 13, 10])
    rw [occ_app _ _ h1, List.count_append, h2, show occ [61, 13, 10] = 1 from rfl, show List.count (10 : UInt8) [61, 13, 10] = 1 from rfl]
    omega
theorem kept_put {p : Page} {n : Nat} (h : Kept10 p n) (c : UInt8) (e : Bool) : Kept10 (pPut p (unitL c e)) n := by
  obtain ⟨⟨u1, u2⟩, u3⟩ := unit_facts c e
  have hne : unitL c e ≠ [] := by have := (unit_len c e).2; intro hh; rw [hh] at this; cases this
  have key : ∀ q : Page, Kept10 q n → ∀ m : Int, Kept10 (q.1 ++ unitL c e, (m, ())) n := fun q ⟨q1, q2⟩ m => by
    refine ⟨endsOk_app _ hne u3, ?_⟩
    show (q.1 ++ unitL c e).count 10 = n + occ (q.1 ++ unitL c e)
    rw [occ_app _ _ q1, List.count_append, q2, u1, u2]; omega
  unfold pPut
  cases decide (75 < p.2.1 + (((unitL c e).length : Nat) : Int))
  · exact key p h _
  · exact key (pEnd p true) (by have := kept_end h true; simpa using this) _
theorem kept_lay : ∀ (s : List UInt8) (k : Nat) (p : Page) (n : Nat), Kept10 p n → Kept10 (layS k s p) (n + (brksS k s).count 10)
  | [], 0, p, n, h => h
  | [], k + 1, p, n, h => h
  | x :: r, k + 1, p, n, h => kept_lay r k p n h
  | x :: r, 0, p, n, h => by
    cases hb : brk (x :: r) with
    | zero =>
      rw [brks_zero hb, show layS 0 (x :: r) p = (match brk (x :: r) with | 0 => layS 0 r (pPut p (unitL x (decide (0 < brk r)))) | k + 1 => layS k r (pEnd p false)) from rfl, hb,
        List.count_cons_of_ne (brk_zero hb).2]
      exact kept_lay r 0 _ n (kept_put h _ _)
    | succ k =>
      rw [brks_succ hb, show layS 0 (x :: r) p = (match brk (x :: r) with | 0 => layS 0 r (pPut p (unitL x (decide (0 < brk r)))) | k + 1 => layS k r (pEnd p false)) from rfl, hb]
      have := kept_lay r k _ _ (kept_end h false)
      rw [show List.count (10 : UInt8) (13 :: 10 :: brksS k r) = (brksS k r).count 10 + 1 from by rw [List.count_cons_of_ne (by decide), List.count_cons_self]]
      rw [show n + ((brksS k r).count 10 + 1) = (n + bif false then 0 else 1) + (brksS k r).count 10 from by show _ = n + 1 + _; omega]
      exact this
/-- Of what is laid: as many line ends as breaks, and soft ends beside. -/
theorem lay_count (s : List UInt8) : (qpage_Lay s).count 10 = (brksS 0 s).count 10 + occ (qpage_Lay s) := by
  have h := kept_lay s 0 ([], (0, ())) 0 ⟨rfl, rfl⟩
  rw [Nat.zero_add] at h
  unfold qpage_Lay pDone
  cases decide (0 < (layS 0 s ([], (0, ()))).2.1)
  · exact h.2
  · have := (kept_end h true).2
    simpa using this
end Go.Av
