/-
  The shallow readings of the layer 'fold' compute what FoM says: what is right, lines, folding; a law.
-/
import Derived.Test.YtcfhfjjohmdaoaaDoorFiP3
namespace Go.Av

theorem unf_le (s : List UInt8) : (unf s).length ≤ s.length := by have := unf_len s.length s (Nat.le_refl _); omega
theorem break_in : ∀ i : Fin 256, ([13, 10] : List UInt8).contains (UInt8.ofNat i.val) = isBreak (UInt8.ofNat i.val) := by decide +kernel
theorem any_some (cs : List UInt8) : ∀ (s : List UInt8) (i : Int), 0 ≤ i → decide (0 ≤ anyAt cs s i) = s.any fun c => cs.contains c
  | [], i, h => rfl
  | x :: s, i, h => by
    show decide (0 ≤ bif cs.contains x then i else anyAt cs s (i + 1)) = (cs.contains x || s.any fun c => cs.contains c)
    rw [← any_some cs s (i + 1) (by omega)]
    cases cs.contains x with
    | true => rw [cond_true, decide_eq_true h]; rfl
    | false => rfl
theorem any_break (s : List UInt8) : bytes_ContainsAny s [13, 10] = s.any isBreak := by
  unfold bytes_ContainsAny bytes_IndexAny
  rw [any_some _ s 0 (by omega)]
  congr 1
  funext c
  exact fin_of (P := fun c => ([13, 10] : List UInt8).contains c = isBreak c) break_in c
theorem lenOk_mono {s t : List UInt8} (h : lenOk s = true) (hl : t.length ≤ s.length) : lenOk t = true := by
  have := lenOk_le h
  unfold lenOk
  rw [decide_eq_true_eq]
  omega

theorem fold_Right_math : ∀ (s0 : List UInt8), (fold_Right_ok s0 = true) → ∃ n, fold_Right_sh n s0 = fold_Right_ret (fold_Right s0) := fun s h => ⟨0, by
  unfold fold_Right_sh fold_Right fold_Unfold
  have hc : bytes_ContainsAny_ok (unf s) [13, 10] = true := by
    unfold bytes_ContainsAny_ok bytes_IndexAny_ok
    rw [lenOk_mono h (unf_le s), Bool.and_true]
    decide
  rw [show fold_Unfold_ok s = true from h, hc, any_break]
  rfl⟩

theorem getD_at {s : List UInt8} {i : Nat} {a : UInt8} {r : List UInt8} (h : s.drop i = a :: r) : s.getD i 0 = a ∧ s.drop (i + 1) = r ∧ i < s.length := by
  have hlt : i < s.length := by
    rcases Nat.lt_or_ge i s.length with h1 | h1
    · exact h1
    · rw [List.drop_eq_nil_of_le h1] at h; cases h
  rw [getD_drop (d := 0) hlt] at h
  exact ⟨(List.cons.inj h).1, (List.cons.inj h).2, hlt⟩

theorem ref27_folds_math : ∀ (s0 : List UInt8) (i1 : Int), (ref27_folds_ok s0 i1 = true) → ∃ n, ref27_folds_sh n s0 i1 = ref27_folds_ret (ref27_folds s0 i1) := fun s i h => ⟨0, by
  unfold ref27_folds_ok at h
  simp only [Bool.and_eq_true, decide_eq_true_eq] at h
  obtain ⟨h1, h2, h3⟩ := h
  have hl := lenOk_le h1
  obtain ⟨j, rfl⟩ : ∃ j : Nat, i = j := ⟨i.toNat, by omega⟩
  have e1 : IntKind.wrap .i64 ((j : Int) + 1) = ((j + 1 : Nat) : Int) := i64_succ (by omega)
  have e2 : IntKind.wrap .i64 ((j : Int) + 2) = ((j + 2 : Nat) : Int) := by rw [IntWalk.i64_in _ (by omega)]; omega
  unfold ref27_folds_sh ref27_folds
  rw [e1, e2, toNat_nat, toNat_nat, toNat_nat]
  by_cases hlt : j + 2 < s.length
  · rw [getD_drop (d := 0) (show j < s.length by omega), getD_drop (d := 0) (show j + 1 < s.length by omega), getD_drop (d := 0) hlt]
    rw [dec_lt, dec_lt, dec_lt, decide_eq_true hlt, decide_eq_true (show j < s.length by omega), decide_eq_true (show j + 1 < s.length by omega), dec_nonneg, dec_nonneg, dec_nonneg]
    show _ = ref27_folds_ret ((s.getD j 0 == 13) && ((s.getD (j + 1) 0 == 10) && ((s.getD (j + 2) 0 == 32) || (s.getD (j + 2) 0 == 9))))
    cases s.getD j 0 == 13 <;> cases s.getD (j + 1) 0 == 10 <;> cases s.getD (j + 2) 0 == 32 <;> rfl
  · rw [dec_lt, decide_eq_false hlt, cond_false]
    have hf : isFold (s.drop j) = false := by
      cases hd : s.drop j with
      | nil => rfl
      | cons a r =>
        cases hb : isFold (a :: r) with
        | false => rfl
        | true =>
          have h4 := isFold_len hb
          have h5 := congrArg List.length hd
          rw [List.length_drop, List.length_cons] at h5
          omega
    rw [hf]⟩

theorem refUnfold_loop (k0 : List UInt8 → Int → Option AV) (s : List UInt8) (hl : s.length ≤ 1048576) : ∀ (d i n : Nat) (out : List UInt8) (m : Nat), i + d = s.length → d < n → out.length + d ≤ 1048576 → m + d ≤ 1048576 →
    ref27_Unfold_l4 k0 n s out (m : Nat) (i : Nat) = k0 (out ++ unf (s.drop i)) ((m + nfolds (s.drop i) : Nat) : Int)
  | d, i, 0, out, m, hi, hn, ho, hm => by omega
  | 0, i, n + 1, out, m, hi, hn, ho, hm => by
    show ref27_Unfold_l4_b k0 (ref27_Unfold_l4 k0 n) n s out _ _ = _
    unfold ref27_Unfold_l4_b
    rw [decide_eq_false (by omega), cond_false, List.drop_eq_nil_of_le (by omega), unf_nil, nfolds_nil, List.append_nil, Nat.add_zero]
  | d + 1, i, n + 1, out, m, hi, hn, ho, hm => by
    show ref27_Unfold_l4_b k0 (ref27_Unfold_l4 k0 n) n s out _ _ = _
    unfold ref27_Unfold_l4_b
    have hlt : i < s.length := by omega
    have hok : ref27_folds_ok s (i : Int) = true := by
      unfold ref27_folds_ok
      simp only [Bool.and_eq_true, decide_eq_true_eq]
      exact ⟨by unfold lenOk; rw [decide_eq_true_eq]; exact hl, by omega, by omega⟩
    have hd := getD_drop (d := 0) hlt
    rw [dec_lt, decide_eq_true hlt, cond_true, hok]
    unfold ref27_folds
    rw [toNat_nat]
    cases hf : isFold (s.drop i) with
    | true =>
      rw [hd] at hf
      have h2 := isFold_len hf
      rw [List.length_drop] at h2
      rw [i64_succ (show i < 4611686018427387904 by omega), i64_succ (show i + 1 < 4611686018427387904 by omega), i64_succ (show m < 4611686018427387904 by omega)]
      obtain ⟨d, rfl⟩ : ∃ d', d = d' + 1 := ⟨d - 1, by omega⟩
      have ih := refUnfold_loop k0 s hl d (i + 1 + 1) n out (m + 1) (by omega) (by omega) (by omega) (by omega)
      simp only [Bool.and_self, cond_true]
      rw [ih, hd, unf_cons, nfolds_cons, hf, cond_true, cond_true, List.drop_drop]
      congr 2
      omega
    | false =>
      rw [hd] at hf
      have ih := refUnfold_loop k0 s hl d (i + 1) n (out ++ [s.getD i 0]) m (by omega) (by omega) (by simp; omega) (by omega)
      rw [dec_nonneg, decide_eq_true (by unfold room; simp; omega), i64_succ (i := i) (by omega), hd, unf_cons, nfolds_cons, hf]
      simp only [Bool.and_self, cond_true, cond_false]
      rw [ih, List.append_assoc]
      rfl
theorem ref27_Unfold_math : ∀ (s0 : List UInt8), (ref27_Unfold_ok s0 = true) → ∃ n, ref27_Unfold_sh n s0 = ref27_Unfold_ret (ref27_Unfold s0).1 (ref27_Unfold s0).2 := fun s h => ⟨s.length + 1, by
  have hl := lenOk_le h
  have := refUnfold_loop (ref27_Unfold_k4_0 (s.length + 1)) s hl s.length 0 (s.length + 1) [] 0 (by omega) (by omega) (by simp; omega) (by omega)
  refine this.trans ?_
  unfold ref27_Unfold_k4_0 ref27_Unfold
  rw [Nat.zero_add]
  rfl⟩

theorem refRight_loop (ret : Bool → Option AV) (k0 : Option AV) (hk : k0 = ret true) (s : List UInt8) (hl : s.length ≤ 1048576) : ∀ (d i n : Nat), i + d = s.length → d < n →
    ref27_Right_l3 ret k0 n s (i : Nat) = ret (!((s.drop i).any isBreak))
  | d, i, 0, hi, hn => by omega
  | 0, i, n + 1, hi, hn => by
    show ref27_Right_l3_b ret k0 (ref27_Right_l3 ret k0 n) n s _ = _
    unfold ref27_Right_l3_b
    rw [decide_eq_false (by omega), cond_false, List.drop_eq_nil_of_le (by omega), hk]
    rfl
  | d + 1, i, n + 1, hi, hn => by
    show ref27_Right_l3_b ret k0 (ref27_Right_l3 ret k0 n) n s _ = _
    unfold ref27_Right_l3_b
    have hlt : i < s.length := by omega
    rw [dec_lt, decide_eq_true hlt, cond_true, dec_nonneg, Bool.true_and, cond_true, toNat_nat, i64_succ (by omega), refRight_loop ret k0 hk s hl d (i + 1) n (by omega) (by omega), getD_drop (d := 0) hlt, List.any_cons, cond_true]
    unfold isBreak
    cases s.getD i 0 == 13 <;> cases s.getD i 0 == 10 <;> rfl
theorem ref27_Right_math : ∀ (s0 : List UInt8), (ref27_Right_ok s0 = true) → ∃ n, ref27_Right_sh n s0 = ref27_Right_ret (ref27_Right s0) := fun s h => ⟨(unf s).length + 1, by
  have hl := lenOk_le (lenOk_mono h (unf_le s))
  unfold ref27_Right_sh
  rw [show ref27_Unfold_ok s = true from h]
  exact refRight_loop ref27_Right_ret (ref27_Right_k3_0 ((unf s).length + 1)) rfl (unf s) hl (unf s).length 0 ((unf s).length + 1) (by omega) (by omega)⟩

theorem check_loop (ret : Int → Option AV) (k0 : Option AV) (hk : k0 = ret 0) (s : List UInt8) (hl : s.length ≤ 1048576) : ∀ (d i n : Nat), i + d = s.length → d < n →
    fold_check_l4 ret k0 n s (s.length : Nat) (i : Nat) = ret (bif (s.drop i).all plainC then 0 else 3)
  | d, i, 0, hi, hn => by omega
  | 0, i, n + 1, hi, hn => by
    show fold_check_l4_b ret k0 (fold_check_l4 ret k0 n) n s _ _ = _
    unfold fold_check_l4_b
    rw [decide_eq_false (by omega), cond_false, List.drop_eq_nil_of_le (by omega), hk]
    rfl
  | d + 1, i, n + 1, hi, hn => by
    show fold_check_l4_b ret k0 (fold_check_l4 ret k0 n) n s _ _ = _
    unfold fold_check_l4_b
    have hlt : i < s.length := by omega
    rw [dec_lt, decide_eq_true hlt, cond_true, dec_nonneg, Bool.true_and, cond_true, toNat_nat, i64_succ (by omega), check_loop ret k0 hk s hl d (i + 1) n (by omega) (by omega), getD_drop (d := 0) hlt, List.all_cons]
    unfold plainC
    cases decide (s.getD i 0 < (32 : UInt8)) <;> cases decide ((126 : UInt8) < s.getD i 0) <;> rfl
theorem fold_check_math : ∀ (s0 : List UInt8) (first1 : Int) (most2 : Int), (fold_check_ok s0 first1 most2 = true) → ∃ n, fold_check_sh n s0 first1 most2 = fold_check_ret (fold_check s0 first1 most2) := fun s a b h => ⟨s.length + 1, by
  have hl := lenOk_le h
  have := check_loop fold_check_ret (fold_check_k4_0 (s.length + 1)) rfl s hl s.length 0 (s.length + 1) (by omega) (by omega)
  unfold fold_check_sh fold_check badRooms
  rw [List.drop_zero] at this
  rw [show (0 : Int) = ((0 : Nat) : Int) from rfl, this]
  cases decide (b < 1) <;> cases decide (1000 < b) <;> cases decide (a < ((0 : Nat) : Int)) <;> cases decide (b < a) <;> rfl⟩

theorem join_loop (k0 : List UInt8 → Option AV) (l : List (List UInt8)) (hl : l.length ≤ 4194304) : ∀ (d i n : Nat) (out : List UInt8), i + d = l.length → d < n → out.length + (joinCL (l.drop i)).length ≤ 8388608 →
    lines_Join_l3 k0 n out l (l.length : Nat) (i : Nat) = k0 (out ++ joinCL (l.drop i))
  | d, i, 0, out, hi, hn, ho => by omega
  | 0, i, n + 1, out, hi, hn, ho => by
    show lines_Join_l3_b k0 (lines_Join_l3 k0 n) n out l _ _ = _
    unfold lines_Join_l3_b
    rw [decide_eq_false (by omega), cond_false, List.drop_eq_nil_of_le (by omega)]
    simp [joinCL]
  | d + 1, i, n + 1, out, hi, hn, ho => by
    show lines_Join_l3_b k0 (lines_Join_l3 k0 n) n out l _ _ = _
    unfold lines_Join_l3_b
    have hlt : i < l.length := by omega
    have hd := getD_drop (d := ([] : List UInt8)) hlt
    have hj : joinCL (l.drop i) = l.getD i [] ++ [13, 10] ++ joinCL (l.drop (i + 1)) := by rw [hd]; rfl
    rw [hj] at ho ⊢
    simp only [List.length_append, List.length_cons, List.length_nil] at ho
    rw [dec_lt, decide_eq_true hlt, cond_true, dec_nonneg, Bool.true_and, cond_true, toNat_nat, decide_eq_true (by unfold room; omega), decide_eq_true (by unfold room; simp only [List.length_append, List.length_cons, List.length_nil]; omega), cond_true, cond_true, i64_succ (by omega),
      join_loop k0 l hl d (i + 1) n _ (by omega) (by omega) (by simp only [List.length_append, List.length_cons, List.length_nil]; omega)]
    simp only [List.append_assoc]
theorem joinCL_ge (l : List (List UInt8)) : 2 * l.length ≤ (joinCL l).length := by
  induction l with
  | nil => simp [joinCL]
  | cons x l ih =>
    unfold joinCL at ih ⊢
    rw [List.flatMap_cons]
    simp only [List.length_append, List.length_cons, List.length_nil]
    omega
theorem lines_Join_math : ∀ (l0 : List (List UInt8)), (lines_Join_ok l0 = true) → ∃ n, lines_Join_sh n l0 = lines_Join_ret (lines_Join l0) := fun l h => ⟨l.length + 1, by
  have h1 : (joinCL l).length ≤ 4194304 := by simpa [lines_Join_ok] using h
  have h2 := joinCL_ge l
  exact join_loop (lines_Join_k3_0 (l.length + 1)) l (by omega) l.length 0 (l.length + 1) [] (by omega) (by omega) (by simp; omega)⟩
end Go.Av
