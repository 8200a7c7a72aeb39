/-
  Pages: what is laid.
-/
import Derived.Test.YtejhjmmdachijaaDoorQpP2
namespace Go.Av
theorem __qpage_page__end_math : ∀ (p0 : (List UInt8) × (Int × Unit)) (soft1 : Bool), (__qpage_page__end_ok p0 soft1 = true) → ∃ n, __qpage_page__end_sh n p0 soft1 = __qpage_page__end_ret (__qpage_page__end p0 soft1) := fun p soft h => ⟨0, by
  unfold __qpage_page__end_ok at h
  have hl : p.1.length ≤ 100000000 := by simpa using h
  have hr : room = 1073741824 := rfl
  unfold __qpage_page__end_sh __qpage_page__end pEnd
  cases soft
  · simp only [cond_false]
    rw [dT (by rw [hr]; simp; omega), cond_true]
  · simp only [cond_true]
    rw [dT (show p.1.length + ([61] : List UInt8).length ≤ room by rw [hr]; simp; omega), cond_true, dT (by rw [hr]; simp; omega), cond_true, List.append_assoc]
    rfl⟩
theorem __qpage_page__put_math : ∀ (p0 : (List UInt8) × (Int × Unit)) (u1 : List UInt8), (__qpage_page__put_ok p0 u1 = true) → ∃ n, __qpage_page__put_sh n p0 u1 = __qpage_page__put_ret (__qpage_page__put p0 u1) := fun p u h => ⟨0, by
  unfold __qpage_page__put_ok at h
  simp only [Bool.and_eq_true, decide_eq_true_eq] at h
  obtain ⟨h1, h2, h3⟩ := h
  have hr : room = 1073741824 := rfl
  have he : __qpage_page__end_ok p true = true := dT h1
  unfold __qpage_page__put_sh __qpage_page__put pPut
  rw [he, show IntKind.wrap .i64 (p.2.1 + ((u.length : Nat) : Int)) = p.2.1 + ((u.length : Nat) : Int) from IntWalk.i64_in _ (by omega)]
  by_cases h75 : 75 < p.2.1 + ((u.length : Nat) : Int)
  · rw [dT h75]
    have hl : (pEnd p true).1.length ≤ 100000003 := by unfold pEnd; simp; omega
    simp only [cond_true]
    rw [show __qpage_page__end p true = pEnd p true from rfl, dT (by rw [hr]; omega), cond_true, show (pEnd p true).2.1 = 0 from rfl, IntWalk.i64_in _ (by omega)]
  · rw [dF h75]
    simp only [cond_false]
    rw [dT (by rw [hr]; omega), cond_true]⟩
/-- A page that is not too full. -/
def okP (p : Page) (b : Nat) : Prop := p.1.length ≤ b ∧ 0 ≤ p.2.1 ∧ p.2.1 ≤ 75
theorem pEnd_ok {p : Page} {b : Nat} (h : okP p b) (soft : Bool) : okP (pEnd p soft) (b + 3) := by
  unfold okP pEnd at *
  cases soft <;> simp <;> omega
theorem pPut_ok {p : Page} {b : Nat} (h : okP p b) {u : List UInt8} (hu : u.length ≤ 3) : okP (pPut p u) (b + 6) := by
  unfold pPut
  by_cases h75 : 75 < p.2.1 + ((u.length : Nat) : Int)
  · rw [dT h75]
    have := pEnd_ok h true
    unfold okP at this ⊢
    show ((pEnd p true).1 ++ u).length ≤ _ ∧ 0 ≤ (0 : Int) + (u.length : Nat) ∧ (0 : Int) + (u.length : Nat) ≤ 75
    rw [List.length_append]; omega
  · rw [dF h75]
    unfold okP at h ⊢
    show (p.1 ++ u).length ≤ _ ∧ 0 ≤ p.2.1 + (u.length : Nat) ∧ p.2.1 + (u.length : Nat) ≤ 75
    rw [List.length_append]; omega
theorem lay_loop (k0 : Page → Option AV) (s : List UInt8) (hl : s.length ≤ 1048576) : ∀ (d i n : Nat) (p : Page), i + d = s.length → d < n → okP p (6 * i) →
    qpage_Lay_l4 k0 n s p (i : Nat) = k0 (layS 0 (s.drop i) p) ∧ okP (layS 0 (s.drop i) p) (6 * s.length)
  | d, i, 0, p, hi, hn, _ => by omega
  | 0, i, n + 1, p, hi, hn, hp => by
    obtain rfl : i = s.length := by omega
    refine ⟨?_, ?_⟩
    · show qpage_Lay_l4_b _ _ n _ _ _ = _
      unfold qpage_Lay_l4_b
      rw [dF (by omega), cond_false, List.drop_eq_nil_of_le (by omega)]
      rfl
    · rw [List.drop_eq_nil_of_le (by omega)]; exact hp
  | d + 1, i, n + 1, p, hi, hn, hp => by
    have hlt : i < s.length := by omega
    have hbk := brk_le (s.drop i)
    rw [List.length_drop] at hbk
    rw [lay_step hlt]
    by_cases h0 : 0 < brk (s.drop i)
    · have ih := lay_loop k0 s hl (d + 1 - brk (s.drop i)) (i + brk (s.drop i)) n (pEnd p false) (by omega) (by omega) (by have := pEnd_ok hp false; unfold okP at this ⊢; omega)
      rw [dT h0, cond_true]
      refine ⟨?_, ih.2⟩
      show qpage_Lay_l4_b _ _ n _ _ _ = _
      unfold qpage_Lay_l4_b
      rw [broken_okN hl (by omega), broken_nat, dT (by omega), dT (show (0 : Int) < ((brk (s.drop i) : Nat) : Int) by omega), show __qpage_page__end_ok p false = true from dT (by unfold okP at hp; omega),
        show IntKind.wrap .i64 ((i : Int) + ((brk (s.drop i) : Nat) : Int)) = ((i + brk (s.drop i) : Nat) : Int) by rw [IntWalk.i64_in _ (by omega)]; omega]
      exact ih.1
    · have hu := unit_len (s.getD i 0) (decide (0 < brk (s.drop (i + 1))))
      have ih := lay_loop k0 s hl d (i + 1) n (pPut p (unitL (s.getD i 0) (decide (0 < brk (s.drop (i + 1)))))) (by omega) (by omega) (by have := pPut_ok hp hu.1; unfold okP at this ⊢; omega)
      rw [dF h0, cond_false]
      refine ⟨?_, ih.2⟩
      show qpage_Lay_l4_b _ _ n _ _ _ = _
      unfold qpage_Lay_l4_b
      rw [i64_succ (by omega), broken_okN hl (by omega), broken_okN hl (by omega), broken_nat, broken_nat, tn, dT (show (i : Int) < ((s.length : Nat) : Int) by omega), dF (show ¬ (0 : Int) < ((brk (s.drop i) : Nat) : Int) by omega),
        show decide ((0 : Int) < ((brk (s.drop (i + 1)) : Nat) : Int)) = decide (0 < brk (s.drop (i + 1))) by congr 1; apply propext; omega]
      have hok : __qpage_page__put_ok p (qpage_Unit (s.getD i 0) (decide (0 < brk (s.drop (i + 1))))) = true := by
        unfold __qpage_page__put_ok okP at *
        rw [dT (by omega), dT (by omega), dT (by show (unitL _ _).length ≤ _; omega)]; rfl
      rw [hok, dT (show (0 : Int) ≤ (i : Int) by omega)]
      exact ih.1
  termination_by d => d
theorem lay_okP (s : List UInt8) (hl : s.length ≤ 1048576) : okP (layS 0 s ([], (0, ()))) (6 * s.length) := by
  have := (lay_loop (fun _ => none) s hl s.length 0 (s.length + 1) ([], (0, ())) (by omega) (by omega) (by unfold okP; simp)).2
  rwa [List.drop_zero] at this
theorem qpage_Lay_math : ∀ (s0 : List UInt8), (qpage_Lay_ok s0 = true) → ∃ n, qpage_Lay_sh n s0 = qpage_Lay_ret (qpage_Lay s0) := fun s h => ⟨s.length + 1, by
  have hl := lenOk_le (l := s) h
  have hp := lay_okP s hl
  unfold qpage_Lay_sh qpage_Lay
  refine (lay_loop (qpage_Lay_k4_0 (s.length + 1)) s hl s.length 0 (s.length + 1) ([], (0, ())) (by omega) (by omega) (by unfold okP; simp)).1.trans ?_
  rw [List.drop_zero]
  unfold qpage_Lay_k4_0 pDone
  generalize layS 0 s ([], (0, ())) = p at hp ⊢
  rw [show __qpage_page__end_ok p true = true from dT (by unfold okP at hp; omega)]
  cases decide ((0 : Int) < p.2.1) <;> rfl⟩
theorem done_len {p : Page} {b : Nat} (h : okP p b) : (pDone p).length ≤ b + 3 := by
  unfold pDone
  have h1 := (pEnd_ok h true).1
  have h2 := h.1
  cases decide ((0 : Int) < p.2.1)
  · exact Nat.le_trans h2 (by omega)
  · exact h1
theorem lay_len (s : List UInt8) (hl : s.length ≤ 1048576) : (qpage_Lay s).length ≤ 6 * s.length + 3 := done_len (lay_okP s hl)
theorem qpage_Len_math : ∀ (s0 : List UInt8), (qpage_Len_ok s0 = true) → ∃ n, qpage_Len_sh n s0 = qpage_Len_ret (qpage_Len s0) := fun s h => ⟨0, by
  unfold qpage_Len_sh qpage_Len
  rw [show qpage_Lay_ok s = true from h]
  rfl⟩
/-! ### the document's -/
def refS : Nat → List UInt8 → Page → Page
  | _, [], p => p
  | 0, x :: r, p => bif x == 13 then refS 1 r (pEnd p false) else refS 0 r (pPut p (unitL x (r.headD 0 == 13)))
  | k + 1, _ :: r, p => refS k r p
theorem head_brks : ∀ r : List UInt8, ((brksS 0 r).headD 0 == 13) = decide (0 < brk r)
  | [] => rfl
  | x :: r => by
    cases hb : brk (x :: r) with
    | zero =>
      rw [show brksS 0 (x :: r) = (match brk (x :: r) with | 0 => x :: brksS 0 r | k + 1 => 13 :: 10 :: brksS k r) from rfl, hb]
      show (x == 13) = false
      by_cases h13 : x = 13
      · subst h13
        have : brk (13 :: r) ≠ 0 := by
          cases r with
          | nil => decide
          | cons y r => show (bif y == 10 then 2 else 1) ≠ 0; cases (y == 10) <;> decide
        exact absurd hb this
      · simp [h13]
    | succ k =>
      rw [show brksS 0 (x :: r) = (match brk (x :: r) with | 0 => x :: brksS 0 r | k + 1 => 13 :: 10 :: brksS k r) from rfl, hb]
      rfl
theorem ref_lay : ∀ (s : List UInt8) (k : Nat) (p : Page), refS 0 (brksS k s) p = layS k s p
  | [], 0, p => rfl
  | [], k + 1, p => rfl
  | x :: r, k + 1, p => ref_lay r k p
  | x :: r, 0, p => by
    cases hb : brk (x :: r) with
    | zero =>
      have h13 : (x == 13) = false := by
        have := head_brks (x :: r)
        rw [show brksS 0 (x :: r) = (match brk (x :: r) with | 0 => x :: brksS 0 r | k + 1 => 13 :: 10 :: brksS k r) from rfl, hb] at this
        exact this
      rw [show brksS 0 (x :: r) = (match brk (x :: r) with | 0 => x :: brksS 0 r | k + 1 => 13 :: 10 :: brksS k r) from rfl, hb,
        show layS 0 (x :: r) p = (match brk (x :: r) with | 0 => layS 0 r (pPut p (unitL x (decide (0 < brk r)))) | k + 1 => layS k r (pEnd p false)) from rfl, hb]
      show (bif x == 13 then refS 1 (brksS 0 r) (pEnd p false) else refS 0 (brksS 0 r) (pPut p (unitL x ((brksS 0 r).headD 0 == 13)))) = _
      rw [h13, cond_false, head_brks, ref_lay r 0]
    | succ k =>
      rw [show brksS 0 (x :: r) = (match brk (x :: r) with | 0 => x :: brksS 0 r | k + 1 => 13 :: 10 :: brksS k r) from rfl, hb,
        show layS 0 (x :: r) p = (match brk (x :: r) with | 0 => layS 0 r (pPut p (unitL x (decide (0 < brk r)))) | k + 1 => layS k r (pEnd p false)) from rfl, hb]
      exact ref_lay r k (pEnd p false)
theorem refS_skip : ∀ (k : Nat) (l : List UInt8) (p : Page), refS k l p = refS 0 (l.drop k) p
  | 0, l, p => rfl
  | k + 1, [], p => rfl
  | k + 1, x :: r, p => by rw [show refS (k + 1) (x :: r) p = refS k r p from rfl, refS_skip k r p]; rfl
theorem reflay_loop (k0 : List UInt8 → Int → Option AV) (b : List UInt8) (hl : b.length ≤ 2097152) : ∀ (d i n : Nat) (p : Page), b.length ≤ i + d → i ≤ 2097160 → d < n → okP p (6 * i) → 
    ref18_Lay_l5 k0 n b p.1 p.2.1 (i : Nat) = k0 (refS 0 (b.drop i) p).1 (refS 0 (b.drop i) p).2.1
  | d, i, 0, p, hi, hi2, hn, _ => by omega
  | 0, i, n + 1, p, hi, hi2, hn, hp => by
    show ref18_Lay_l5_b _ _ n _ _ _ _ = _
    unfold ref18_Lay_l5_b
    rw [dF (by omega), cond_false, List.drop_eq_nil_of_le (by omega)]
    rfl
  | d + 1, i, n + 1, p, hi, hi2, hn, hp => by
    show ref18_Lay_l5_b _ _ n _ _ _ _ = _
    unfold ref18_Lay_l5_b
    by_cases hlt : i < b.length
    · have hr : room = 1073741824 := rfl
      have hpl := hp.1
      rw [dT (show (i : Int) < ((b.length : Nat) : Int) by omega), i64_succ (by omega), i64_succ (i := i + 1) (by omega), tn, tn, getD_drop (d := (0 : UInt8)) hlt]
      rw [show refS 0 (b.getD i 0 :: b.drop (i + 1)) p = bif b.getD i 0 == 13 then refS 1 (b.drop (i + 1)) (pEnd p false) else refS 0 (b.drop (i + 1)) (pPut p (unitL (b.getD i 0) ((b.drop (i + 1)).headD 0 == 13))) from rfl]
      rw [show decide (((i + 1 : Nat) : Int) < ((b.length : Nat) : Int)) = decide (i + 1 < b.length) by congr 1; apply propext; omega]
      have hpe := pEnd_ok hp true
      cases h13 : (b.getD i 0 == 13) with
      | true =>
        have ih := reflay_loop k0 b hl d (i + 2) n (pEnd p false) (by omega) (by omega) (by omega) (by have := pEnd_ok hp false; unfold okP at this ⊢; omega)
        rw [refS_skip, List.drop_drop]
        simp (disch := (first | omega | (rw [hr]; simp; omega))) only [dT, cond_true, Bool.and_true]
        exact ih
      | false =>
        have hu := fun e => unit_len (b.getD i 0) e
        have ih := fun e => reflay_loop k0 b hl d (i + 1) n (pPut p (unitL (b.getD i 0) e)) (by omega) (by omega) (by omega) (by have := pPut_ok hp (hu e).1; unfold okP at this ⊢; omega)
        have hput : ∀ e, (bif decide ((75 : Int) < IntKind.wrap .i64 (p.2.1 + (((ref18_Unit (b.getD i 0) e).length : Nat) : Int))) then
            bif decide (p.1.length + ([61, 13, 10] : List UInt8).length ≤ room) then
              bif decide ((p.1 ++ ([61, 13, 10] : List UInt8)).length + (ref18_Unit (b.getD i 0) e).length ≤ room) then
                ref18_Lay_l5 k0 n b ((p.1 ++ ([61, 13, 10] : List UInt8)) ++ ref18_Unit (b.getD i 0) e) (IntKind.wrap .i64 (0 + (((ref18_Unit (b.getD i 0) e).length : Nat) : Int))) ((i + 1 : Nat) : Int) else none else none
            else bif decide (p.1.length + (ref18_Unit (b.getD i 0) e).length ≤ room) then
              ref18_Lay_l5 k0 n b (p.1 ++ ref18_Unit (b.getD i 0) e) (IntKind.wrap .i64 (p.2.1 + (((ref18_Unit (b.getD i 0) e).length : Nat) : Int))) ((i + 1 : Nat) : Int) else none) =
            k0 (refS 0 (b.drop (i + 1)) (pPut p (unitL (b.getD i 0) e))).1 (refS 0 (b.drop (i + 1)) (pPut p (unitL (b.getD i 0) e))).2.1 := fun e => by
          rw [← ih e, show ref18_Unit (b.getD i 0) e = unitL (b.getD i 0) e from rfl]
          have hu1 := (hu e).1
          have hp2 := hp.2
          rw [show IntKind.wrap .i64 (p.2.1 + (((unitL (b.getD i 0) e).length : Nat) : Int)) = p.2.1 + (((unitL (b.getD i 0) e).length : Nat) : Int) from IntWalk.i64_in _ (by omega),
            show IntKind.wrap .i64 ((0 : Int) + (((unitL (b.getD i 0) e).length : Nat) : Int)) = 0 + (((unitL (b.getD i 0) e).length : Nat) : Int) from IntWalk.i64_in _ (by omega)]
          generalize unitL (b.getD i 0) e = u at hu1 ⊢
          unfold pPut
          by_cases h75 : 75 < p.2.1 + ((u.length : Nat) : Int)
          · rw [dT h75, dT (by rw [hr]; simp; omega), dT (by rw [hr]; simp; omega)]; rfl
          · rw [dF h75, cond_false, dT (show p.1.length + u.length ≤ room by rw [hr]; omega)]; rfl
        by_cases h2 : i + 1 < b.length
        · rw [dT h2, dT (show (0 : Int) ≤ (i : Int) by omega), dT (show (0 : Int) ≤ ((i + 1 : Nat) : Int) by omega), getD_drop (d := (0 : UInt8)) h2]
          have hq := hput (b.getD (i + 1) 0 == 13)
          rw [getD_drop (d := (0 : UInt8)) h2] at hq
          exact hq
        · rw [dF h2, dT (show (0 : Int) ≤ (i : Int) by omega), List.drop_eq_nil_of_le (show b.length ≤ i + 1 by omega)]
          have hq := hput false
          rw [List.drop_eq_nil_of_le (show b.length ≤ i + 1 by omega)] at hq
          exact hq
    · rw [dF (by omega), cond_false, List.drop_eq_nil_of_le (by omega)]
      rfl
theorem brks_len : ∀ (s : List UInt8) (k : Nat), (brksS k s).length ≤ 2 * s.length
  | [], 0 => by simp [brksS]
  | [], k + 1 => by simp [brksS]
  | x :: r, k + 1 => by have := brks_len r k; simp only [brksS, List.length_cons]; omega
  | x :: r, 0 => by
    rw [show brksS 0 (x :: r) = (match brk (x :: r) with | 0 => x :: brksS 0 r | k + 1 => 13 :: 10 :: brksS k r) from rfl]
    cases hb : brk (x :: r) with
    | zero => have := brks_len r 0; simp only [List.length_cons]; omega
    | succ k => have := brks_len r k; simp only [List.length_cons]; omega
theorem ref18_Lay_math : ∀ (s0 : List UInt8), (ref18_Lay_ok s0 = true) → ∃ n, ref18_Lay_sh n s0 = ref18_Lay_ret (ref18_Lay s0) := fun s h => ⟨2 * s.length + 1, by
  have hl := lenOk_le (l := s) h
  have hb := brks_len s 0
  have hp := lay_okP s hl
  have hr : room = 1073741824 := rfl
  unfold ref18_Lay_sh ref18_Lay qpage_Lay ref18_Breaks
  rw [show ref18_Breaks_ok s = true from h, Bool.true_and, cond_true]
  refine (reflay_loop (ref18_Lay_k5_0 (2 * s.length + 1)) (brksS 0 s) (by omega) (2 * s.length) 0 (2 * s.length + 1) ([], (0, ())) (by omega) (by omega) (by omega) (by unfold okP; simp)).trans ?_
  rw [List.drop_zero, ref_lay]
  unfold ref18_Lay_k5_0 pDone
  generalize layS 0 s ([], (0, ())) = p at hp ⊢
  have := hp.1
  rw [dT (show p.1.length + ([61, 13, 10] : List UInt8).length ≤ room by rw [hr]; simp; omega)]
  cases decide ((0 : Int) < p.2.1) <;> rfl⟩
end Go.Av
