import Derived.Test.YtejhjmmdachijaaDoorQrP1
namespace Go.Av
set_option linter.unusedVariables false
set_option linter.unusedSimpArgs false
theorem z59_math : ∀ (s0 : List UInt8) (cutset1 : List UInt8), (z59_ok s0 cutset1 = true) → ∃ n, z59_sh n s0 cutset1 = z59_ret (z59 s0 cutset1) := fun s cs h => ⟨0, by
  unfold z59_ok at h
  simp only [Bool.and_eq_true, decide_eq_true_eq] at h
  obtain ⟨h1, h2, h3, h4⟩ := h
  cases s with
  | nil => rfl
  | cons x r =>
    unfold z59_sh
    have e1 : ((((x :: r).length : Nat) : Int) == 0) = false := by simp; omega
    have e2 : (cs == ([] : List UInt8)) = false := by cases cs <;> simp at h2 ⊢
    have e3 : (((cs.length : Nat) : Int) == 1) = false := by simp; omega
    rw [e1, e2, e3]
    have e4 : z78_ok cs = true := by unfold z78_ok; rw [h3, h4]; rfl
    have e5 : z79_ok (x :: r) (z78 cs).1 = true := h1
    rw [e4, e5]
    simp only [cond_false, Bool.and_true, cond_true]
    show z59_ret (z79 (x :: r) (z78 cs).1) = _
    unfold z79 z59
    rw [show (fun c => z85 (z78 cs).1 c) = fun c => cs.contains c from funext (set_contains cs)]⟩
theorem z81_math : ∀ (s0 : List UInt8) (suffix1 : List UInt8), (z81_ok s0 suffix1 = true) → ∃ n, z81_sh n s0 suffix1 = z81_ret (z81 s0 suffix1) := fun s t h => ⟨0, by
  have hl := lenOk_le h
  unfold z81_sh z81
  by_cases hc : t.length ≤ s.length
  · have e : IntKind.wrap .i64 ((s.length : Int) - (t.length : Int)) = ((s.length - t.length : Nat) : Int) := by rw [IntWalk.i64_in _ (by omega)]; omega
    rw [e, tn, tn, List.take_length, dT hc]
    simp (disch := omega) only [dT, cond_true, Bool.and_true]
    rfl
  · rw [dF hc, dF (by omega)]; rfl⟩
theorem z60_math : ∀ (s0 : List UInt8) (suffix1 : List UInt8), (z60_ok s0 suffix1 = true) → ∃ n, z60_sh n s0 suffix1 = z60_ret (z60 s0 suffix1).1 (z60 s0 suffix1).2 := fun s t h => ⟨0, by
  have hl := lenOk_le h
  unfold z60_sh z60
  rw [show z81_ok s t = true from h]
  by_cases hc : t.length ≤ s.length
  · have e : IntKind.wrap .i64 ((s.length : Int) - (t.length : Int)) = ((s.length - t.length : Nat) : Int) := by rw [IntWalk.i64_in _ (by omega)]; omega
    rw [e, tn]
    simp (disch := omega) only [dT, cond_true, Bool.and_true]
    cases z81 s t <;> rfl
  · have e : z81 s t = false := by unfold z81; rw [dF hc]; rfl
    rw [e]; rfl⟩
theorem z88_math : ∀ (s0 : List UInt8) (prefix1 : List UInt8), ∃ n, z88_sh n s0 prefix1 = z88_ret (z88 s0 prefix1) := fun s t => ⟨0, by
  unfold z88_sh z88
  by_cases hc : t.length ≤ s.length
  · rw [tn, dT hc]
    simp (disch := omega) only [dT, cond_true, Bool.and_true]
    rfl
  · rw [dF hc, dF (by omega)]; rfl⟩
theorem dropR_len (p : UInt8 → Bool) (l : List UInt8) : (dropR p l).length ≤ l.length := by
  unfold dropR
  rw [List.length_reverse]
  have := (List.dropWhile_suffix p (l := l.reverse)).sublist.length_le
  simpa using this
theorem blank_contains : (fun c => ([32, 9] : List UInt8).contains c) = blank := funext fun c => by
  unfold blank
  simp only [List.contains_cons, List.contains_nil, Bool.or_false]
theorem soft_suffix (l : List UInt8) : z81 l [61] = softEnd l := by
  unfold z81 softEnd
  rcases List.eq_nil_or_concat l with rfl | ⟨t, x, rfl⟩
  · rfl
  · rw [List.concat_eq_append, dT (by simp), cond_true]
    have e : (t ++ [x]).length - ([61] : List UInt8).length = t.length := by simp
    rw [e, List.drop_left, List.getLast?_append]
    simp
theorem bareL_len (l : List UInt8) : (bareL l).length ≤ l.length := by
  unfold bareL
  have := dropR_len blank l
  cases softEnd (dropR blank l)
  · exact this
  · show (dropR blank l).dropLast.length ≤ _
    rw [List.length_dropLast]; omega
theorem z45_math : ∀ (l0 : List UInt8), (z45_ok l0 = true) → ∃ n, z45_sh n l0 = z45_ret (z45 l0).1 (z45 l0).2 := fun l h => ⟨0, by
  have hl := lenOk_le h
  unfold z45_sh
  have e1 : z59_ok l [32, 9] = true := by unfold z59_ok; rw [show lenOk l = true from h]; rfl
  have e2 : z59 l [32, 9] = dropR blank l := by unfold z59; rw [blank_contains]
  have hd := dropR_len blank l
  have e3 : z60_ok (dropR blank l) [61] = true := lenOk_of (by omega)
  rw [e1, e2, e3]
  simp only [Bool.and_true, cond_true]
  have e4 : z60 (dropR blank l) [61] = (z45 l) := by
    unfold z60 z45 bareL
    rw [soft_suffix]
    cases softEnd (dropR blank l)
    · rfl
    · show ((dropR blank l).take ((dropR blank l).length - 1), true) = ((dropR blank l).dropLast, true)
      rw [List.dropLast_eq_take]
  rw [e4]⟩
theorem getD_of_drop (l : List UInt8) (i k : Nat) : (l.drop i).getD k 0 = l.getD (i + k) 0 := by
  simp [List.getD, List.getElem?_drop]
theorem hTake_drop (l : List UInt8) (i : Nat) : z50 l (i : Int) 61 = z50 (l.drop i) 0 61 := by
  unfold z50
  by_cases h : i + 3 ≤ l.length
  · have e1 : decide ((i : Int) ≤ (l.length : Int) - 3) = true := dT (by omega)
    have e2 : decide ((0 : Int) ≤ ((l.drop i).length : Int) - 3) = true := dT (by rw [List.length_drop]; omega)
    rw [e1, e2, dT (show (0 : Int) ≤ (i : Int) by omega), tn]
    simp only [Bool.and_true, cond_true]
    show takeAt l i 61 = takeAt (l.drop i) 0 61
    unfold takeAt
    rw [getD_of_drop, getD_of_drop, getD_of_drop]
    rfl
  · have e1 : decide ((i : Int) ≤ (l.length : Int) - 3) = false := dF (by omega)
    have e2 : decide ((0 : Int) ≤ ((l.drop i).length : Int) - 3) = false := dF (by rw [List.length_drop]; omega)
    rw [e1, e2]
    simp
theorem hTake_len {l : List UInt8} {i : Nat} (h : (z50 l (i : Int) 61).2 = true) : i + 3 ≤ l.length := by
  unfold z50 at h
  by_cases hc : (i : Int) ≤ (l.length : Int) - 3
  · omega
  · rw [dF hc, Bool.and_false] at h
    cases h
theorem unescS_skip : ∀ (k : Nat) (l : List UInt8), unescS k l = unescS 0 (l.drop k)
  | 0, l => rfl
  | k + 1, [] => rfl
  | k + 1, x :: r => by rw [show unescS (k + 1) (x :: r) = unescS k r from rfl, unescS_skip k r]; rfl
theorem unesc_step {l : List UInt8} {i : Nat} (h : i < l.length) : unescS 0 (l.drop i) = bif (z50 l (i : Int) 61).2 then ((z50 l (i : Int) 61).1 :: (unescS 0 (l.drop (i + 3))).1, (unescS 0 (l.drop (i + 3))).2)
    else (l.getD i 0 :: (unescS 0 (l.drop (i + 1))).1, (unescS 0 (l.drop (i + 1))).2 + (bif l.getD i 0 == 61 then 1 else 0)) := by
  have e := getD_drop (d := (0 : UInt8)) h
  rw [hTake_drop, e]
  show (bif (z50 (l.getD i 0 :: l.drop (i + 1)) 0 61).2 then _ else _) = _
  rw [unescS_skip 2, List.drop_drop, show i + 1 + 2 = i + 3 by omega]
theorem unesc_len : ∀ (k : Nat) (l : List UInt8), (unescS k l).1.length ≤ l.length ∧ (unescS k l).2 ≤ l.length
  | _, [] => ⟨Nat.le_refl _, Nat.le_refl _⟩
  | k + 1, x :: r => by
    have := unesc_len k r
    rw [show unescS (k + 1) (x :: r) = unescS k r from rfl, List.length_cons]
    omega
  | 0, x :: r => by
    have h1 := unesc_len 2 r
    have h2 := unesc_len 0 r
    show (bif (z50 (x :: r) 0 61).2 then _ else _ : List UInt8 × Nat).1.length ≤ _ ∧ (bif (z50 (x :: r) 0 61).2 then _ else _ : List UInt8 × Nat).2 ≤ _
    cases (z50 (x :: r) 0 61).2
    · simp only [cond_false, List.length_cons]
      cases (x == 61) <;> simp only [cond_true, cond_false] <;> omega
    · simp only [cond_true, List.length_cons]
      omega
theorem takeOk {l : List UInt8} (hl : l.length ≤ 1048576) (i : Int) (c : UInt8) : z50_ok l i c = true := lenOk_of hl
theorem unesc_loop (k0 : List UInt8 → Int → Option AV) (l : List UInt8) (hl : l.length ≤ 1048576) : ∀ (d i n st : Nat) (out : List UInt8), i + d = l.length → d < n → out.length + d ≤ room → st + d ≤ 1048576 →
    z46_l4 k0 n l out (st : Int) (i : Int) = k0 (out ++ (unescS 0 (l.drop i)).1) ((st + (unescS 0 (l.drop i)).2 : Nat) : Int)
  | d, i, 0, st, out, hi, hn, _, _ => by omega
  | 0, i, n + 1, st, out, hi, hn, _, _ => by
    show z46_l4_b _ _ n _ _ _ _ = _
    unfold z46_l4_b
    rw [dF (by omega), cond_false, List.drop_eq_nil_of_le (by omega)]
    show k0 out st = k0 (out ++ []) _
    rw [List.append_nil]
    rfl
  | d + 1, i, n + 1, st, out, hi, hn, hb, hs => by
    have hlt : i < l.length := by omega
    show z46_l4_b _ _ n _ _ _ _ = _
    unfold z46_l4_b
    rw [takeOk hl, unesc_step hlt, tn]
    cases ht : (z50 l (i : Int) 61).2 with
    | true =>
      have h3 := hTake_len ht
      simp (disch := (first | omega | (simp; omega))) only [dT, cond_true, Bool.and_true]
      rw [show IntKind.wrap .i64 ((i : Int) + 3) = ((i + 3 : Nat) : Int) by rw [IntWalk.i64_in _ (by omega)]; omega,
        unesc_loop k0 l hl (d + 1 - 3) (i + 3) n st _ (by omega) (by omega) (by simp; omega) (by omega), List.append_assoc]
      rfl
    | false =>
      simp (disch := (first | omega | (simp; omega))) only [dT, cond_true, cond_false, Bool.and_true]
      rw [i64_succ (by omega), i64_succ (by omega)]
      cases hq : l.getD i 0 == 61 with
      | true =>
        simp only [cond_true]
        rw [unesc_loop k0 l hl d (i + 1) n (st + 1) _ (by omega) (by omega) (by simp; omega) (by omega), List.append_assoc]
        congr 1
        omega
      | false =>
        simp only [cond_false]
        rw [unesc_loop k0 l hl d (i + 1) n st _ (by omega) (by omega) (by simp; omega) (by omega), List.append_assoc]
        rfl
  termination_by d => d
theorem z46_math : ∀ (l0 : List UInt8), (z46_ok l0 = true) → ∃ n, z46_sh n l0 = z46_ret (z46 l0).1 (z46 l0).2 := fun l h => ⟨l.length + 1, by
  have hl := lenOk_le h
  unfold z46_sh
  have := unesc_loop (z46_k4_0 (l.length + 1)) l hl l.length 0 (l.length + 1) 0 [] (by omega) (by omega) (by show 0 + l.length ≤ room; unfold room; omega) (by omega)
  rw [show ((0 : Nat) : Int) = 0 from rfl] at this
  rw [this, List.drop_zero, Nat.zero_add]
  rfl⟩
theorem z25_math : ∀ (l0 : List UInt8), (z25_ok l0 = true) → ∃ n, z25_sh n l0 = z25_ret (z25 l0).1 (z25 l0).2 := fun l h => ⟨0, by
  have hl := lenOk_le h
  unfold z25_sh
  have hb := bareL_len l
  rw [show z45_ok l = true from h, show z46_ok (z45 l).1 = true from lenOk_of (by show (bareL l).length ≤ _; omega)]
  rfl⟩
theorem z64_math : ∀ (s0 : List UInt8), ∃ n, z64_sh n s0 = z64_ret (z64 s0) := fun s => ⟨0, by
  unfold z64_sh z64
  match s with
  | [] => rfl
  | [x] => rfl
  | x :: y :: r =>
    have e : z88 (x :: y :: r) [13, 10] = ((x == 13) && (y == 10)) := by
      unfold z88
      rw [dT (by simp), cond_true]
      show ([x, y] == [13, 10]) = _
      simp [List.cons_beq_cons]
    rw [e, dT (show (0 : Int) < (((x :: y :: r).length : Nat) : Int) by simp; omega)]
    show _ = z64_ret ((bif (x == 13) && (y == 10) then 2 else 1 : Nat) : Int)
    cases (x == 13) <;> cases (y == 10) <;> rfl⟩
end Go.Av
