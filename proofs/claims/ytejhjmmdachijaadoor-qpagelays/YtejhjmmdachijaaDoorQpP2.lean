/-
  Breaks, units, pages.
-/
import Derived.Test.YtejhjmmdachijaaDoorQpP1
namespace Go.Av
theorem qpage_Unit_math : ∀ (c0 : UInt8) (ends1 : Bool), ∃ n, qpage_Unit_sh n c0 ends1 = qpage_Unit_ret (qpage_Unit c0 ends1) := fun c e => ⟨0, by
  unfold qpage_Unit_sh qpage_Unit unitL
  rw [show hexa_Put_ok ([] : List UInt8) 61 c = true from rfl]
  cases (c != 61) <;> cases octet_Is c 4 <;> cases octet_Is c 2 <;> cases e <;> rfl⟩
theorem ref18_Unit_math : ∀ (c0 : UInt8) (ends1 : Bool), ∃ n, ref18_Unit_sh n c0 ends1 = ref18_Unit_ret (ref18_Unit c0 ends1) := fun c e => ⟨0, by
  unfold ref18_Unit_sh ref18_Unit unitL ref01_Is
  rw [show ref02_Put_ok ([] : List UInt8) 61 c = true from rfl]
  cases (c != 61) <;> cases octet_Is c 4 <;> cases octet_Is c 2 <;> cases e <;> rfl⟩
theorem unit_len (c : UInt8) (e : Bool) : (unitL c e).length ≤ 3 ∧ 1 ≤ (unitL c e).length := by
  unfold unitL
  cases (((c != 61) && octet_Is c 4) || (!e && octet_Is c 2))
  · exact ⟨Nat.le_refl 3, by show 1 ≤ 3; omega⟩
  · exact ⟨by show 1 ≤ 3; omega, Nat.le_refl 1⟩
theorem brk_key1 : ∀ b1 b3 : Bool, (bif b1 then 1 else bif b3 then 1 else 0 : Nat) ≤ 1 := by decide
theorem brk_key2 : ∀ b1 b2 b3 : Bool, (bif b1 then (bif b2 then 2 else 1) else bif b3 then 1 else 0 : Nat) ≤ 2 := by decide
theorem brk_le : ∀ l : List UInt8, brk l ≤ l.length ∧ brk l ≤ 2
  | [] => ⟨Nat.le_refl _, by decide⟩
  | [x] => by
    have h : brk [x] ≤ 1 := brk_key1 (x == 13) (x == 10)
    exact ⟨h, Nat.le_trans h (by omega)⟩
  | x :: y :: r => by
    have h : brk (x :: y :: r) ≤ 2 := brk_key2 (x == 13) (y == 10) (x == 10)
    exact ⟨Nat.le_trans h (by simp), h⟩
theorem brk_at {s : List UInt8} {i : Nat} (h : i < s.length) : brk (s.drop i) = bif s.getD i 0 == 13 then (bif decide (i + 1 < s.length) then (bif s.getD (i + 1) 0 == 10 then 2 else 1) else 1) else bif s.getD i 0 == 10 then 1 else 0 := by
  rw [getD_drop (d := (0 : UInt8)) h]
  by_cases h2 : i + 1 < s.length
  · rw [getD_drop (d := (0 : UInt8)) h2, decide_eq_true h2]; rfl
  · rw [List.drop_eq_nil_of_le (by omega), decide_eq_false h2]; rfl
theorem qpage_broken_math : ∀ (s0 : List UInt8) (at1 : Int), (qpage_broken_ok s0 at1 = true) → ∃ n, qpage_broken_sh n s0 at1 = qpage_broken_ret (qpage_broken s0 at1) := fun s at1 h => ⟨0, by
  unfold qpage_broken_ok at h
  simp only [Bool.and_eq_true, decide_eq_true_eq] at h
  have hl := lenOk_le h.1
  obtain ⟨i, rfl⟩ : ∃ i : Nat, at1 = (i : Int) := ⟨at1.toNat, by omega⟩
  unfold qpage_broken_sh qpage_broken
  rw [tn]
  by_cases hi : i < s.length
  · rw [brk_at hi, i64_succ (by omega), dF (show ¬ ((s.length : Nat) : Int) ≤ (i : Int) by omega), tn]
    simp (disch := omega) only [dT, cond_true, cond_false, Bool.and_true]
    rw [show decide (((i + 1 : Nat) : Int) < ((s.length : Nat) : Int)) = decide (i + 1 < s.length) by congr 1; apply propext; omega]
    generalize s.getD i 0 = x
    generalize s.getD (i + 1) 0 = y
    by_cases h13 : x = 13
    · subst h13
      cases decide (i + 1 < s.length) <;> cases (y == 10) <;> rfl
    · have e1 : (x == 13) = false := by simp [h13]
      have e2 : (x != 13) = true := by simp [bne, h13]
      rw [e1, e2]
      by_cases h10 : x = 10
      · subst h10; rfl
      · have e3 : (x == 10) = false := by simp [h10]
        have e4 : (x != 10) = true := by simp [bne, h10]
        rw [e3, e4]; rfl
  · rw [dT (show ((s.length : Nat) : Int) ≤ (i : Int) by omega), List.drop_eq_nil_of_le (by omega)]; rfl⟩
theorem brksS_skip : ∀ (k : Nat) (l : List UInt8), brksS k l = brksS 0 (l.drop k)
  | 0, l => rfl
  | k + 1, [] => rfl
  | k + 1, x :: r => by rw [show brksS (k + 1) (x :: r) = brksS k r from rfl, brksS_skip k r]; rfl
theorem layS_skip : ∀ (k : Nat) (l : List UInt8) (p : Page), layS k l p = layS 0 (l.drop k) p
  | 0, l, p => rfl
  | k + 1, [], p => rfl
  | k + 1, x :: r, p => by rw [show layS (k + 1) (x :: r) p = layS k r p from rfl, layS_skip k r p]; rfl
theorem brks_step {s : List UInt8} {i : Nat} (h : i < s.length) : brksS 0 (s.drop i) = bif decide (0 < brk (s.drop i)) then 13 :: 10 :: brksS 0 (s.drop (i + brk (s.drop i))) else s.getD i 0 :: brksS 0 (s.drop (i + 1)) := by
  have e := getD_drop (d := (0 : UInt8)) h
  cases hb : brk (s.drop i) with
  | zero =>
    rw [e] at hb ⊢
    rw [show brksS 0 (s.getD i 0 :: s.drop (i + 1)) = (match brk (s.getD i 0 :: s.drop (i + 1)) with | 0 => s.getD i 0 :: brksS 0 (s.drop (i + 1)) | k + 1 => 13 :: 10 :: brksS k (s.drop (i + 1))) from rfl, hb]
    rfl
  | succ k =>
    rw [e] at hb ⊢
    rw [show brksS 0 (s.getD i 0 :: s.drop (i + 1)) = (match brk (s.getD i 0 :: s.drop (i + 1)) with | 0 => s.getD i 0 :: brksS 0 (s.drop (i + 1)) | k + 1 => 13 :: 10 :: brksS k (s.drop (i + 1))) from rfl, hb]
    show 13 :: 10 :: brksS k (s.drop (i + 1)) = 13 :: 10 :: brksS 0 (s.drop (i + (k + 1)))
    rw [brksS_skip k, List.drop_drop, show i + 1 + k = i + (k + 1) by omega]
theorem lay_step {s : List UInt8} {i : Nat} (h : i < s.length) (p : Page) : layS 0 (s.drop i) p = bif decide (0 < brk (s.drop i)) then layS 0 (s.drop (i + brk (s.drop i))) (pEnd p false) else layS 0 (s.drop (i + 1)) (pPut p (unitL (s.getD i 0) (decide (0 < brk (s.drop (i + 1)))))) := by
  have e := getD_drop (d := (0 : UInt8)) h
  cases hb : brk (s.drop i) with
  | zero =>
    rw [e] at hb ⊢
    rw [show layS 0 (s.getD i 0 :: s.drop (i + 1)) p = (match brk (s.getD i 0 :: s.drop (i + 1)) with | 0 => layS 0 (s.drop (i + 1)) (pPut p (unitL (s.getD i 0) (decide (0 < brk (s.drop (i + 1)))))) | k + 1 => layS k (s.drop (i + 1)) (pEnd p false)) from rfl, hb]
    rfl
  | succ k =>
    rw [e] at hb ⊢
    rw [show layS 0 (s.getD i 0 :: s.drop (i + 1)) p = (match brk (s.getD i 0 :: s.drop (i + 1)) with | 0 => layS 0 (s.drop (i + 1)) (pPut p (unitL (s.getD i 0) (decide (0 < brk (s.drop (i + 1)))))) | k + 1 => layS k (s.drop (i + 1)) (pEnd p false)) from rfl, hb]
    show layS k (s.drop (i + 1)) (pEnd p false) = layS 0 (s.drop (i + (k + 1))) (pEnd p false)
    rw [layS_skip k, List.drop_drop, show i + 1 + k = i + (k + 1) by omega]
theorem broken_nat (s : List UInt8) (i : Nat) : qpage_broken s (i : Int) = ((brk (s.drop i) : Nat) : Int) := by unfold qpage_broken; rw [tn]
theorem broken_okN {s : List UInt8} {i : Nat} (hl : s.length ≤ 1048576) (hi : i ≤ 1048577) : qpage_broken_ok s (i : Int) = true := by
  unfold qpage_broken_ok
  rw [lenOk_of hl, dT (by omega)]; rfl
theorem breaks_loop (k0 : List UInt8 → Option AV) (s : List UInt8) (hl : s.length ≤ 1048576) : ∀ (d i n : Nat) (out : List UInt8), i + d = s.length → d < n → out.length + 2 * d ≤ room →
    qpage_Breaks_l3 k0 n s out (i : Nat) = k0 (out ++ brksS 0 (s.drop i))
  | d, i, 0, out, hi, hn, _ => by omega
  | 0, i, n + 1, out, hi, hn, _ => by
    show qpage_Breaks_l3_b _ _ n _ _ _ = _
    unfold qpage_Breaks_l3_b
    rw [dF (by omega), cond_false, List.drop_eq_nil_of_le (by omega)]
    show k0 out = k0 (out ++ [])
    rw [List.append_nil]
  | d + 1, i, n + 1, out, hi, hn, hb => by
    have hlt : i < s.length := by omega
    have hbk := brk_le (s.drop i)
    rw [List.length_drop] at hbk
    show qpage_Breaks_l3_b _ _ n _ _ _ = _
    unfold qpage_Breaks_l3_b
    rw [broken_okN hl (by omega), broken_nat, brks_step hlt, tn]
    simp (disch := (first | omega | (simp; omega))) only [dT, cond_true, Bool.and_true]
    rw [show decide ((0 : Int) < ((brk (s.drop i) : Nat) : Int)) = decide (0 < brk (s.drop i)) by congr 1; apply propext; omega]
    by_cases h0 : 0 < brk (s.drop i)
    · rw [dT h0, cond_true, cond_true, show IntKind.wrap .i64 ((i : Int) + ((brk (s.drop i) : Nat) : Int)) = ((i + brk (s.drop i) : Nat) : Int) by rw [IntWalk.i64_in _ (by omega)]; omega,
        breaks_loop k0 s hl (d + 1 - brk (s.drop i)) (i + brk (s.drop i)) n _ (by omega) (by omega) (by simp; omega), List.append_assoc]
      rfl
    · rw [dF h0, cond_false, cond_false, i64_succ (by omega), breaks_loop k0 s hl d (i + 1) n _ (by omega) (by omega) (by simp; omega), List.append_assoc]
      rfl
  termination_by d => d
theorem qpage_Breaks_math : ∀ (s0 : List UInt8), (qpage_Breaks_ok s0 = true) → ∃ n, qpage_Breaks_sh n s0 = qpage_Breaks_ret (qpage_Breaks s0) := fun s h => ⟨s.length + 1, by
  have hl := lenOk_le (l := s) h
  unfold qpage_Breaks_sh qpage_Breaks
  refine (breaks_loop (qpage_Breaks_k3_0 (s.length + 1)) s hl s.length 0 (s.length + 1) [] (by omega) (by omega) (by unfold room; simp; omega)).trans ?_
  rw [List.drop_zero]; rfl⟩
theorem refbreaks_loop (k0 : List UInt8 → Option AV) (s : List UInt8) (hl : s.length ≤ 1048576) : ∀ (d i n : Nat) (out : List UInt8), i + d = s.length → d < n → out.length + 2 * d ≤ room →
    ref18_Breaks_l3 k0 n s out (i : Nat) = k0 (out ++ brksS 0 (s.drop i))
  | d, i, 0, out, hi, hn, _ => by omega
  | 0, i, n + 1, out, hi, hn, _ => by
    show ref18_Breaks_l3_b _ _ n _ _ _ = _
    unfold ref18_Breaks_l3_b
    rw [dF (by omega), cond_false, List.drop_eq_nil_of_le (by omega)]
    show k0 out = k0 (out ++ [])
    rw [List.append_nil]
  | d + 1, i, n + 1, out, hi, hn, hb => by
    have hlt : i < s.length := by omega
    have hat := brk_at hlt
    have ih1 := fun out hh => refbreaks_loop k0 s hl d (i + 1) n out (by omega) (by omega) hh
    have ih2 : ∀ out : List UInt8, i + 2 ≤ s.length → out.length + 2 * (d - 1) ≤ room → ref18_Breaks_l3 k0 n s out ((i + 2 : Nat) : Int) = k0 (out ++ brksS 0 (s.drop (i + 2))) := fun out h2 hh => refbreaks_loop k0 s hl (d - 1) (i + 2) n out (by omega) (by omega) hh
    show ref18_Breaks_l3_b _ _ n _ _ _ = _
    unfold ref18_Breaks_l3_b
    rw [brks_step hlt, hat, tn, i64_succ (by omega), i64_succ (i := i + 1) (by omega), tn]
    simp (disch := (first | omega | (simp; omega))) only [dT, cond_true, Bool.and_true]
    rw [show decide (((i + 1 : Nat) : Int) < ((s.length : Nat) : Int)) = decide (i + 1 < s.length) by congr 1; apply propext; omega]
    rw [ih1 _ (by simp; omega), ih1 _ (by simp; omega)]
    generalize s.getD i 0 = x
    by_cases h13 : x = 13
    · subst h13
      by_cases h2 : i + 1 < s.length
      · rw [ih2 _ (by omega) (by simp; omega), dT h2]
        generalize s.getD (i + 1) 0 = y
        cases (y == 10) <;> simp [List.append_assoc]
      · rw [dF h2]; simp [List.append_assoc]
    · have e1 : (x == 13) = false := by simp [h13]
      have e2 : (x != 13) = true := by simp [bne, h13]
      rw [e1, e2]
      by_cases h10 : x = 10
      · subst h10; simp [List.append_assoc]
      · have e3 : (x == 10) = false := by simp [h10]
        have e4 : (x != 10) = true := by simp [bne, h10]
        rw [e3, e4]; simp [List.append_assoc]
  termination_by d => d
theorem ref18_Breaks_math : ∀ (s0 : List UInt8), (ref18_Breaks_ok s0 = true) → ∃ n, ref18_Breaks_sh n s0 = ref18_Breaks_ret (ref18_Breaks s0) := fun s h => ⟨s.length + 1, by
  have hl := lenOk_le (l := s) h
  unfold ref18_Breaks_sh ref18_Breaks
  refine (refbreaks_loop (ref18_Breaks_k3_0 (s.length + 1)) s hl s.length 0 (s.length + 1) [] (by omega) (by omega) (by unfold room; simp; omega)).trans ?_
  rw [List.drop_zero]; rfl⟩
end Go.Av
