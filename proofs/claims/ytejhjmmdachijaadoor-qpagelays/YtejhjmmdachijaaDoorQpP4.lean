/-
  Counting; lines that are right.
-/
import Derived.Test.YtejhjmmdachijaaDoorQpP3
namespace Go.Av
theorem index_cases (s sep : List UInt8) : Lib.index s sep = -1 ∨ 0 ≤ Lib.index s sep := by
  rcases Lib.index_spec s sep with ⟨h1, _⟩ | ⟨i, h1, _⟩
  · exact .inl h1
  · right; omega
theorem count_loop (ret : Int → Option AV) (sep : List UInt8) (h2 : 2 ≤ sep.length) (hs : sep.length ≤ 1048576) : ∀ (f : Nat) (s : List UInt8) (m n : Nat), s.length < f → f ≤ n → s.length ≤ 1048576 → m + s.length ≤ 1048576 →
    bytes_Count_l6 ret n s sep (m : Nat) = ret ((m + cntF sep f s : Nat) : Int)
  | 0, s, m, n, h, _, _, _ => by omega
  | f + 1, s, m, 0, h, hn, _, _ => by omega
  | f + 1, s, m, n + 1, h, hn, hl, hm => by
    show bytes_Count_l6_b _ _ n _ _ _ = _
    unfold bytes_Count_l6_b
    have hok : bytes_Index_ok s sep = true := by
      unfold bytes_Index_ok
      rw [lenOk_of hl, lenOk_of hs, dT (by omega)]; rfl
    rw [hok, show bytes_Index s sep = Lib.index s sep from rfl]
    rw [show cntF sep (f + 1) s = bif Lib.index s sep == -1 then 0 else cntF sep f (s.drop ((Lib.index s sep).toNat + sep.length)) + 1 from rfl]
    rcases index_cases s sep with e | e
    · rw [e]; rfl
    · have hr := Lib.index_room s sep e
      rw [show (Lib.index s sep == -1) = false by rw [beq_eq_false_iff_ne]; omega]
      rw [show IntKind.wrap .i64 (Lib.index s sep + ((sep.length : Nat) : Int)) = (((Lib.index s sep).toNat + sep.length : Nat) : Int) by rw [IntWalk.i64_in _ (by omega)]; omega]
      rw [tn, tn, List.take_length, i64_succ (by omega), dT (by omega), dT (show (((Lib.index s sep).toNat + sep.length : Nat) : Int) ≤ ((s.length : Nat) : Int) by omega), dT (Int.le_refl _)]
      simp only [Bool.and_self, cond_true, cond_false]
      rw [count_loop ret sep h2 hs f (s.drop ((Lib.index s sep).toNat + sep.length)) (m + 1) n (by rw [List.length_drop]; omega) (by omega) (by rw [List.length_drop]; omega) (by rw [List.length_drop]; omega)]
      congr 1
      omega
theorem bytes_Count_math : ∀ (s0 : List UInt8) (sep1 : List UInt8), (bytes_Count_ok s0 sep1 = true) → ∃ n, bytes_Count_sh n s0 sep1 = bytes_Count_ret (bytes_Count s0 sep1) := fun s sep h => ⟨s.length + 1, by
  unfold bytes_Count_ok at h
  simp only [Bool.and_eq_true, decide_eq_true_eq] at h
  have hl := lenOk_le h.1
  have hs := lenOk_le h.2.1
  unfold bytes_Count_sh bytes_Count
  rw [show (((sep.length : Nat) : Int) == 0) = false by rw [beq_eq_false_iff_ne]; omega, show (((sep.length : Nat) : Int) == 1) = false by rw [beq_eq_false_iff_ne]; omega]
  have := count_loop bytes_Count_ret sep h.2.2 hs (s.length + 1) s 0 (s.length + 1) (by omega) (by omega) hl (by omega)
  rw [Nat.zero_add] at this
  exact this⟩
theorem qpage_Soft_math : ∀ (s0 : List UInt8), (qpage_Soft_ok s0 = true) → ∃ n, qpage_Soft_sh n s0 = qpage_Soft_ret (qpage_Soft s0) := fun s h => ⟨0, by
  unfold qpage_Soft_sh qpage_Soft
  rw [show bytes_Count_ok s [61, 13, 10] = true by unfold bytes_Count_ok; rw [show lenOk s = true from h]; rfl]
  rfl⟩
/-! ### lines -/
theorem getD_drop_add (l : List UInt8) (i j : Nat) : (l.drop i).getD j 0 = l.getD (i + j) 0 := by
  simp [List.getD, List.getElem?_drop]
theorem take_drop {l : List UInt8} {i : Nat} (hi : i < l.length) : hexa_Take l (i : Int) 61 = hexa_Take (l.drop i) 0 61 := by
  unfold hexa_Take
  have e : (decide ((0 : Int) ≤ (i : Int)) && decide ((i : Int) ≤ ((l.length : Nat) : Int) - 3)) = (decide ((0 : Int) ≤ 0) && decide ((0 : Int) ≤ (((l.drop i).length : Nat) : Int) - 3)) := by
    rw [List.length_drop, Bool.eq_iff_iff]
    simp only [Bool.and_eq_true, decide_eq_true_eq]
    omega
  rw [e]
  unfold takeAt
  rw [tn, show Int.toNat 0 = 0 from rfl, getD_drop_add, getD_drop_add, getD_drop_add]
  rfl
theorem take_room {l : List UInt8} {i : Int} {c : UInt8} (h : (hexa_Take l i c).2 = true) : 0 ≤ i ∧ i + 3 ≤ ((l.length : Nat) : Int) := by
  unfold hexa_Take at h
  cases hc : (decide (0 ≤ i) && decide (i ≤ ((l.length : Nat) : Int) - 3)) with
  | false => rw [hc] at h; cases h
  | true =>
    simp only [Bool.and_eq_true, decide_eq_true_eq] at hc
    omega
theorem lastBlank_at {l : List UInt8} (h : 0 < l.length) : lastBlank l = octet_Is (l.getD (l.length - 1) 0) 2 := by
  unfold lastBlank
  rw [List.getLast?_eq_getElem?]
  have : l[l.length - 1]? = some (l.getD (l.length - 1) 0) := by
    simp [List.getD, List.getElem?_eq_getElem (show l.length - 1 < l.length by omega)]
  rw [this]
theorem rightS_step (x : UInt8) (r : List UInt8) : rightS (x :: r) = ((octet_Is x 6) && ((bif (x == 61) && !(r.isEmpty) then (hexa_Take (x :: r) 0 61).2 && hexa_Capital (r.take 2) else true) && rightS r)) := rfl
theorem right_loop (ret : Bool → Option AV) (k0 : List UInt8 → Option AV) (l : List UInt8) (hl : l.length ≤ 1048576) : ∀ (d i n : Nat), i + d = l.length → d < n →
    qpage_right_l2 ret k0 n l l ((l.length : Nat) : Int) (i : Nat) = bif rightS (l.drop i) then k0 l else ret false
  | d, i, 0, hi, hn => by omega
  | 0, i, n + 1, hi, hn => by
    show qpage_right_l2_b _ _ _ n _ _ _ _ = _
    unfold qpage_right_l2_b
    rw [dF (by omega), cond_false, List.drop_eq_nil_of_le (by omega)]
    rfl
  | d + 1, i, n + 1, hi, hn => by
    have hlt : i < l.length := by omega
    have ih := right_loop ret k0 l hl d (i + 1) n (by omega) (by omega)
    show qpage_right_l2_b _ _ _ n _ _ _ _ = _
    unfold qpage_right_l2_b
    rw [take_drop hlt, tn, i64_succ (by omega), ih, getD_drop (d := (0 : UInt8)) hlt, rightS_step, show hexa_Take_ok l (i : Int) 61 = true from lenOk_of hl,
      show IntKind.wrap .i64 ((i : Int) + 3) = ((i + 3 : Nat) : Int) by rw [IntWalk.i64_in _ (by omega)]; omega, show IntKind.wrap .i64 (((l.length : Nat) : Int) - 1) = ((l.length - 1 : Nat) : Int) by rw [IntWalk.i64_in _ (by omega)]; omega, tn, tn,
      show List.drop (i + 1) (List.take (i + 3) l) = (l.drop (i + 1)).take 2 by rw [List.drop_take, show i + 3 - (i + 1) = 2 by omega],
      show hexa_Capital_ok ((l.drop (i + 1)).take 2) = true from lenOk_of (by rw [List.length_take]; omega)]
    simp (disch := omega) only [dT, cond_true, Bool.and_true]
    have hem : ((i : Int) == ((l.length - 1 : Nat) : Int)) = (l.drop (i + 1)).isEmpty := by
      rw [Bool.eq_iff_iff, beq_iff_eq, List.isEmpty_iff, List.drop_eq_nil_iff]
      omega
    rw [hem]
    cases octet_Is (l.getD i 0) 6 with
    | false => rfl
    | true =>
      by_cases h61 : l.getD i 0 = 61
      · rw [h61]
        cases hE : (l.drop (i + 1)).isEmpty with
        | true => rfl
        | false =>
          cases hT : (hexa_Take (61 :: l.drop (i + 1)) 0 61).2 with
          | false => rfl
          | true =>
            have hr := take_room hT
            rw [List.length_cons, List.length_drop] at hr
            rw [dT (show ((i + 3 : Nat) : Int) ≤ ((l.length : Nat) : Int) by omega)]
            cases hexa_Capital ((l.drop (i + 1)).take 2) <;> rfl
      · have e1 : (l.getD i 0 == 61) = false := by simpa using h61
        have e2 : (l.getD i 0 != 61) = true := by simpa [bne] using h61
        rw [e1, e2]; rfl
theorem qpage_right_math : ∀ (l0 : List UInt8), (qpage_right_ok l0 = true) → ∃ n, qpage_right_sh n l0 = qpage_right_ret (qpage_right l0) := fun l h => ⟨l.length + 1, by
  have hl := lenOk_le (l := l) h
  unfold qpage_right_sh qpage_right
  refine (right_loop qpage_right_ret (qpage_right_k2_0 (l.length + 1)) l hl l.length 0 (l.length + 1) (by omega) (by omega)).trans ?_
  rw [List.drop_zero]
  cases rightS l with
  | false => rfl
  | true =>
    show qpage_right_k2_0 (l.length + 1) l = _
    unfold qpage_right_k2_0
    by_cases h0 : l.length = 0
    · have : l = [] := List.eq_nil_of_length_eq_zero h0
      subst this; rfl
    · rw [show (((l.length : Nat) : Int) == 0) = false by rw [beq_eq_false_iff_ne]; omega, show IntKind.wrap .i64 (((l.length : Nat) : Int) - 1) = ((l.length - 1 : Nat) : Int) by rw [IntWalk.i64_in _ (by omega)]; omega,
        dT (by omega), dT (show ((l.length - 1 : Nat) : Int) < ((l.length : Nat) : Int) by omega), tn, lastBlank_at (by omega)]
      rfl⟩
end Go.Av
