/-
  Lines checked, soft ends counted.
-/
import Derived.Test.YtejhjmmdachijaaDoorQpP5
namespace Go.Av
theorem beqT {a b : Int} (h : a = b) : (a == b) = true := by simp [h]
theorem beqF {a b : Int} (h : a ≠ b) : (a == b) = false := by simp [h]
theorem linesEnd_nil : ∀ l : List (List UInt8), (linesEnd l).1 = [] → (linesEnd l).2 = true
  | [], _ => rfl
  | [x], h => by
    unfold linesEnd at h ⊢
    split at h
    · rename_i e; rw [if_pos e]
    · cases h
  | x :: y :: r, h => by cases h
theorem lines_step (s : List UInt8) : s ≠ [] → (bytes_Cut s [13, 10] = (s, [], false) ∧ ref18_Lines s = ([s], false)) ∨
    (∃ k : Nat, k + 2 ≤ s.length ∧ bytes_Cut s [13, 10] = (s.take k, s.drop (k + 2), true) ∧ ref18_Lines s = (s.take k :: (ref18_Lines (s.drop (k + 2))).1, (ref18_Lines (s.drop (k + 2))).2)) := fun hs => by
  unfold ref18_Lines
  rcases cut_crlf s with ⟨h1, h2, _⟩ | ⟨k, h1, h2, h3, _⟩
  · left
    refine ⟨h1, ?_⟩
    rw [h2]
    unfold linesEnd
    rw [if_neg hs]
  · right
    refine ⟨k, h1, h2, ?_⟩
    rw [h3]
    have := splitS_ne (s.drop (k + 2)) []
    cases hl : splitS [] (s.drop (k + 2)) with
    | nil => exact absurd hl this
    | cons a b => rfl
theorem checkL_cons (x : List UInt8) (L : List (List UInt8)) (e : Bool) (h : L = [] → e = true) : checkL (x :: L) e = bif decide (76 < x.length) then 12 else bif qpage_right x then checkL L e else 3 := by
  cases L with
  | nil => rw [h rfl]; rfl
  | cons y r => rfl
theorem check_loop (ret : Int → Option AV) (k0 : Option AV) (hk : k0 = ret 0) : ∀ (f : Nat) (s : List UInt8) (n : Nat), s.length < f → f ≤ n → s.length ≤ 1048576 →
    qpage_Check_l1 ret k0 n s = ret (checkL (ref18_Lines s).1 (ref18_Lines s).2)
  | 0, s, n, h, _, _ => by omega
  | f + 1, s, 0, h, hn, _ => by omega
  | f + 1, s, n + 1, h, hn, hl => by
    show qpage_Check_l1_b _ _ _ n _ = _
    unfold qpage_Check_l1_b
    by_cases hs : s = []
    · subst hs; rw [hk]; rfl
    · have hp : 0 < s.length := List.length_pos_iff.2 hs
      rw [dT (by omega), cond_true, show bytes_Cut_ok s [13, 10] = true by unfold bytes_Cut_ok; rw [lenOk_of hl]; rfl, Bool.true_and, cond_true]
      rcases lines_step s hs with ⟨h1, h2⟩ | ⟨k, h1, h2, h3⟩
      · rw [h1, h2]
        show (bif decide ((76 : Int) < ((s.length : Nat) : Int)) then ret 12 else ret 4) = ret (bif decide (76 < s.length) then 12 else 4)
        rw [show decide ((76 : Int) < ((s.length : Nat) : Int)) = decide (76 < s.length) by congr 1; apply propext; omega]
        cases decide (76 < s.length) <;> rfl
      · rw [h2, h3]
        have hcc := checkL_cons (s.take k) (ref18_Lines (s.drop (k + 2))).1 (ref18_Lines (s.drop (k + 2))).2 (linesEnd_nil _)
        have ih := check_loop ret k0 hk f (s.drop (k + 2)) n (by rw [List.length_drop]; omega) (by omega) (by rw [List.length_drop]; omega)
        show (bif decide ((76 : Int) < (((s.take k).length : Nat) : Int)) then ret 12 else bif qpage_right_ok (s.take k) && true then (bif !(qpage_right (s.take k)) then ret 3 else qpage_Check_l1 ret k0 n (s.drop (k + 2))) else none) = ret (checkL (s.take k :: (ref18_Lines (s.drop (k + 2))).1) (ref18_Lines (s.drop (k + 2))).2)
        rw [hcc, ih, show decide ((76 : Int) < (((s.take k).length : Nat) : Int)) = decide (76 < (s.take k).length) by congr 1; apply propext; omega, show qpage_right_ok (s.take k) = true from lenOk_of (by rw [List.length_take]; omega)]
        cases decide (76 < (s.take k).length) <;> cases qpage_right (s.take k) <;> rfl
theorem qpage_Check_math : ∀ (s0 : List UInt8), (qpage_Check_ok s0 = true) → ∃ n, qpage_Check_sh n s0 = qpage_Check_ret (qpage_Check s0) := fun s h => ⟨s.length + 1, by
  unfold qpage_Check_sh qpage_Check
  exact check_loop qpage_Check_ret (qpage_Check_k1_0 (s.length + 1)) rfl (s.length + 1) s (s.length + 1) (by omega) (by omega) (lenOk_le (l := s) h)⟩
theorem lines_le : ∀ (f : Nat) (s : List UInt8), s.length < f → (ref18_Lines s).1.length ≤ s.length ∧ ∀ x ∈ (ref18_Lines s).1, x.length ≤ s.length
  | 0, s, h => by omega
  | f + 1, s, h => by
    by_cases hs : s = []
    · subst hs; exact ⟨Nat.le_refl _, fun x hx => by cases hx⟩
    · have hp : 0 < s.length := List.length_pos_iff.2 hs
      rcases lines_step s hs with ⟨h1, h2⟩ | ⟨k, h1, h2, h3⟩
      · rw [h2]
        exact ⟨hp, fun x hx => by simp only [List.mem_singleton] at hx; subst hx; exact Nat.le_refl _⟩
      · rw [h3]
        obtain ⟨i1, i2⟩ := lines_le f (s.drop (k + 2)) (by rw [List.length_drop]; omega)
        rw [List.length_drop] at i1
        refine ⟨by simp only [List.length_cons]; omega, fun x hx => ?_⟩
        simp only [List.mem_cons] at hx
        rcases hx with rfl | hx
        · rw [List.length_take]; omega
        · have := i2 x hx
          rw [List.length_drop] at this
          omega
theorem refcheck_loop (ret : Int → Option AV) (k0 : Option AV) (hk : k0 = ret 0) (l : List (List UInt8)) (e : Bool) (hl : l.length ≤ 1048576) (hx : ∀ x ∈ l, x.length ≤ 1048576) : ∀ (d i n : Nat), i + d = l.length → d < n →
    ref18_Check_l3 ret k0 n l e (i : Nat) = ret (checkL (l.drop i) e)
  | d, i, 0, hi, hn => by omega
  | 0, i, n + 1, hi, hn => by
    show ref18_Check_l3_b _ _ _ n _ _ _ = _
    unfold ref18_Check_l3_b
    rw [dF (by omega), cond_false, List.drop_eq_nil_of_le (by omega), hk]
    rfl
  | d + 1, i, n + 1, hi, hn => by
    have hlt : i < l.length := by omega
    have ih := refcheck_loop ret k0 hk l e hl hx d (i + 1) n (by omega) (by omega)
    have hm : l.getD i [] ∈ l := by simp [List.getD, List.getElem?_eq_getElem hlt]
    show ref18_Check_l3_b _ _ _ n _ _ _ = _
    unfold ref18_Check_l3_b
    rw [i64_succ (by omega), ih, tn, show IntKind.wrap .i64 (((l.length : Nat) : Int) - 1) = ((l.length - 1 : Nat) : Int) by rw [IntWalk.i64_in _ (by omega)]; omega, show ref18_right_ok (l.getD i []) = true from lenOk_of (hx _ hm), getD_drop (d := ([] : List UInt8)) hlt]
    simp (disch := omega) only [dT, cond_true, Bool.and_true]
    rw [show decide ((76 : Int) < (((l.getD i []).length : Nat) : Int)) = decide (76 < (l.getD i []).length) by congr 1; apply propext; omega, show ref18_right (l.getD i []) = qpage_right (l.getD i []) from rfl]
    by_cases hlast : i + 1 = l.length
    · rw [beqT (show (i : Int) = ((l.length - 1 : Nat) : Int) by omega), List.drop_eq_nil_of_le (show l.length ≤ i + 1 by omega)]
      rw [show checkL [l.getD i []] e = bif decide (76 < (l.getD i []).length) then 12 else bif !e then 4 else bif qpage_right (l.getD i []) then 0 else 3 from rfl]
      cases decide (76 < (l.getD i []).length) <;> cases e <;> cases qpage_right (l.getD i []) <;> rfl
    · rw [beqF (show (i : Int) ≠ ((l.length - 1 : Nat) : Int) by omega), getD_drop (d := ([] : List UInt8)) (show i + 1 < l.length by omega)]
      rw [show checkL (l.getD i [] :: l.getD (i + 1) [] :: l.drop (i + 1 + 1)) e = bif decide (76 < (l.getD i []).length) then 12 else bif qpage_right (l.getD i []) then checkL (l.getD (i + 1) [] :: l.drop (i + 1 + 1)) e else 3 from rfl]
      cases decide (76 < (l.getD i []).length) <;> cases qpage_right (l.getD i []) <;> rfl
theorem ref18_Check_math : ∀ (s0 : List UInt8), (ref18_Check_ok s0 = true) → ∃ n, ref18_Check_sh n s0 = ref18_Check_ret (ref18_Check s0) := fun s h => ⟨(ref18_Lines s).1.length + 1, by
  have hl := lenOk_le (l := s) h
  obtain ⟨h1, h2⟩ := lines_le (s.length + 1) s (by omega)
  unfold ref18_Check_sh ref18_Check
  rw [show ref18_Lines_ok s = true from h, Bool.true_and, cond_true]
  refine (refcheck_loop ref18_Check_ret (ref18_Check_k3_0 ((ref18_Lines s).1.length + 1)) rfl (ref18_Lines s).1 (ref18_Lines s).2 (by omega) (fun x hx => by have := h2 x hx; omega) (ref18_Lines s).1.length 0 ((ref18_Lines s).1.length + 1) (by omega) (by omega)).trans ?_
  rw [List.drop_zero]⟩
theorem last_at {x : List UInt8} (h : 0 < x.length) : (x.getLast? == some 61) = (x.getD (x.length - 1) 0 == 61) := by
  rw [List.getLast?_eq_getElem?]
  have : x[x.length - 1]? = some (x.getD (x.length - 1) 0) := by
    simp [List.getD, List.getElem?_eq_getElem (show x.length - 1 < x.length by omega)]
  rw [this]
  rfl
theorem refsoft_loop (k0 : Int → Option AV) (l : List (List UInt8)) (e : Bool) (hl : l.length ≤ 1048576) (hx : ∀ x ∈ l, x.length ≤ 1048576) : ∀ (d i n m : Nat), i + d = l.length → d < n → m + d ≤ 1048576 →
    ref18_Soft_l4 k0 n l e (m : Nat) (i : Nat) = k0 ((m + softL (l.drop i) e : Nat) : Int)
  | d, i, 0, m, hi, hn, _ => by omega
  | 0, i, n + 1, m, hi, hn, _ => by
    show ref18_Soft_l4_b _ _ n _ _ _ _ = _
    unfold ref18_Soft_l4_b
    rw [dF (by omega), cond_false, List.drop_eq_nil_of_le (by omega)]
    rfl
  | d + 1, i, n + 1, m, hi, hn, hm => by
    have hlt : i < l.length := by omega
    have ih1 := refsoft_loop k0 l e hl hx d (i + 1) n (m + 1) (by omega) (by omega) (by omega)
    have ih0 := refsoft_loop k0 l e hl hx d (i + 1) n m (by omega) (by omega) (by omega)
    have hmem : l.getD i [] ∈ l := by simp [List.getD, List.getElem?_eq_getElem hlt]
    have hxl := hx _ hmem
    show ref18_Soft_l4_b _ _ n _ _ _ _ = _
    unfold ref18_Soft_l4_b
    rw [i64_succ (i := i) (by omega), i64_succ (i := m) (by omega), ih1, ih0, tn, show IntKind.wrap .i64 (((l.length : Nat) : Int) - 1) = ((l.length - 1 : Nat) : Int) by rw [IntWalk.i64_in _ (by omega)]; omega, getD_drop (d := ([] : List UInt8)) hlt]
    simp (disch := omega) only [dT, cond_true, Bool.and_true]
    by_cases h0 : 0 < (l.getD i []).length
    · rw [dT (show (0 : Int) < (((l.getD i []).length : Nat) : Int) by omega), show IntKind.wrap .i64 ((((l.getD i []).length : Nat) : Int) - 1) = (((l.getD i []).length - 1 : Nat) : Int) by rw [IntWalk.i64_in _ (by omega)]; omega, tn,
        dT (show (0 : Int) ≤ (((l.getD i []).length - 1 : Nat) : Int) by omega), dT (show (((l.getD i []).length - 1 : Nat) : Int) < (((l.getD i []).length : Nat) : Int) by omega), ← last_at h0]
      simp only [Bool.and_self, cond_true]
      by_cases hlast : i + 1 = l.length
      · rw [dF (show ¬ (i : Int) < ((l.length - 1 : Nat) : Int) by omega), List.drop_eq_nil_of_le (show l.length ≤ i + 1 by omega)]
        rw [show softL [l.getD i []] e = bif ((l.getD i []).getLast? == some 61) && e then 1 else 0 from rfl, show softL [] e = 0 from rfl]
        cases ((l.getD i []).getLast? == some 61) <;> cases e <;> rfl
      · rw [dT (show (i : Int) < ((l.length - 1 : Nat) : Int) by omega), getD_drop (d := ([] : List UInt8)) (show i + 1 < l.length by omega)]
        rw [show softL (l.getD i [] :: l.getD (i + 1) [] :: l.drop (i + 1 + 1)) e = (bif (l.getD i []).getLast? == some 61 then 1 else 0) + softL (l.getD (i + 1) [] :: l.drop (i + 1 + 1)) e from rfl]
        cases ((l.getD i []).getLast? == some 61) with
        | true => cases e <;> (simp only [cond_true, cond_false]; congr 1; omega)
        | false => simp only [cond_false]; congr 1; omega
    · have hn0 : l.getD i [] = [] := List.eq_nil_of_length_eq_zero (by omega)
      rw [dF (show ¬ (0 : Int) < (((l.getD i []).length : Nat) : Int) by omega), hn0]
      by_cases hlast : i + 1 = l.length
      · rw [List.drop_eq_nil_of_le (show l.length ≤ i + 1 by omega)]; rfl
      · rw [getD_drop (d := ([] : List UInt8)) (show i + 1 < l.length by omega)]
        rw [show softL (([] : List UInt8) :: l.getD (i + 1) [] :: l.drop (i + 1 + 1)) e = 0 + softL (l.getD (i + 1) [] :: l.drop (i + 1 + 1)) e from rfl, Nat.zero_add]
        rfl
theorem ref18_Soft_math : ∀ (s0 : List UInt8), (ref18_Soft_ok s0 = true) → ∃ n, ref18_Soft_sh n s0 = ref18_Soft_ret (ref18_Soft s0) := fun s h => ⟨(ref18_Lines s).1.length + 1, by
  have hl := lenOk_le (l := s) h
  obtain ⟨h1, h2⟩ := lines_le (s.length + 1) s (by omega)
  unfold ref18_Soft_sh ref18_Soft
  rw [show ref18_Lines_ok s = true from h, Bool.true_and, cond_true]
  refine (refsoft_loop (ref18_Soft_k4_0 ((ref18_Lines s).1.length + 1)) (ref18_Lines s).1 (ref18_Lines s).2 (by omega) (fun x hx => by have := h2 x hx; omega) (ref18_Lines s).1.length 0 ((ref18_Lines s).1.length + 1) 0 (by omega) (by omega) (by omega)).trans ?_
  rw [List.drop_zero, Nat.zero_add]
  rfl⟩
end Go.Av
