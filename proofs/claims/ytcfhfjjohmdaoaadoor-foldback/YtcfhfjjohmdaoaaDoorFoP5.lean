/-
  The shallow reading of fold.Fold computes what FoM says; a law.
-/
import Derived.Test.YtcfhfjjohmdaoaaDoorFoP4
namespace Go.Av

theorem spAt_le (s : List UInt8) : ∀ n, spAt s n ≤ n
  | 0 => Nat.le_refl _
  | n + 1 => by
    unfold spAt
    cases List.getD s (n + 1) 0 == 32
    · have := spAt_le s n; simp only [cond_false]; omega
    · simp

theorem i64_pred {i : Nat} (h : i + 1 < 4611686018427387904) : IntKind.wrap .i64 (((i + 1 : Nat) : Int) - 1) = ((i : Nat) : Int) := by
  rw [IntWalk.i64_in _ (by omega)]; omega

theorem fold_l8 (k1 : List UInt8 → Int → List (List UInt8) → Int → Option AV) (k2 : Option AV) (s : List UInt8) (most : Int) (ls : List (List UInt8)) (hl : s.length ≤ 1048576) (hls : ls.length ≤ 1048576) : ∀ (a n : Nat), a < s.length → a < n →
    fold_Fold_l8 k1 k2 n s most ls (a : Nat) = match spAt s a with | 0 => k2 | k + 1 => k1 (s.drop (k + 1)) most (ls ++ [s.take (k + 1)]) most
  | a, 0, ha, hn => by omega
  | 0, n + 1, ha, hn => rfl
  | a + 1, n + 1, ha, hn => by
    show fold_Fold_l8_b k1 k2 (fold_Fold_l8 k1 k2 n) n s most ls _ = _
    unfold fold_Fold_l8_b
    have ih := fold_l8 k1 k2 s most ls hl hls a n (by omega) (by omega)
    rw [decide_eq_true (show (0 : Int) < ((a + 1 : Nat) : Int) by omega), cond_true, dec_nonneg, dec_lt, decide_eq_true ha, toNat_nat, toNat_nat, toNat_nat, List.take_length, List.drop_zero, i64_pred (by omega), ih]
    rw [decide_eq_true (show (0 : Int) ≤ ((0 : Nat) : Int) by omega), decide_eq_true (show ((0 : Nat) : Int) ≤ ((a + 1 : Nat) : Int) by omega), decide_eq_true (show ((a + 1 : Nat) : Int) ≤ ((s.length : Nat) : Int) by omega), decide_eq_true (Int.le_refl ((s.length : Nat) : Int)), decide_eq_true (by unfold room; simp only [List.length_cons, List.length_nil]; omega)]
    have e : spAt s (a + 1) = bif List.getD s (a + 1) 0 == 32 then a + 1 else spAt s a := rfl
    rw [e]
    generalize spAt s a = z
    cases List.getD s (a + 1) 0 == 32 <;> rfl

theorem fold_l6 (ret : List UInt8 → Int → Option AV) (k0 : List UInt8 → List (List UInt8) → Option AV) (most : Nat) : ∀ (f : Nat) (s : List UInt8) (room : Nat) (ls : List (List UInt8)) (n : Nat), s.length < f → f + s.length + room < n → f + s.length + most < n → s.length ≤ 1048576 → ls.length + s.length ≤ 1048576 →
    fold_Fold_l6 ret k0 n s (most : Nat) ls (room : Nat) = match foldLines f s room most with | some (l, r) => k0 r (ls ++ l) | none => ret [] 12
  | 0, s, rm, ls, n, hf, hn, hn2, hs, hl => by omega
  | f + 1, s, rm, ls, 0, hf, hn, hn2, hs, hl => by omega
  | f + 1, s, rm, ls, n + 1, hf, hn, hn2, hs, hl => by
    show fold_Fold_l6_b ret k0 (fold_Fold_l6 ret k0 n) n s _ ls _ = _
    unfold fold_Fold_l6_b foldLines
    by_cases h : rm < s.length
    · rw [dec_lt, decide_eq_true h, decide_eq_false (show ¬ s.length ≤ rm by omega), cond_true, cond_false, fold_l8 _ _ s most ls hs (by omega) rm n h (by omega)]
      have hle := spAt_le s rm
      generalize spAt s rm = k at hle
      cases k with
      | zero => rfl
      | succ k =>
        have ih := fold_l6 ret k0 most f (s.drop (k + 1)) most (ls ++ [s.take (k + 1)]) n (by rw [List.length_drop]; omega) (by rw [List.length_drop]; omega) (by rw [List.length_drop]; omega) (by rw [List.length_drop]; omega) (by rw [List.length_drop]; simp only [List.length_append, List.length_cons, List.length_nil]; omega)
        show fold_Fold_l6 ret k0 n (s.drop (k + 1)) most (ls ++ [s.take (k + 1)]) most = _
        rw [ih]
        show _ = match (match foldLines f (s.drop (k + 1)) most most with | some (l, r) => some (s.take (k + 1) :: l, r) | none => none) with | some (l, r) => k0 r (ls ++ l) | none => ret [] 12
        cases foldLines f (s.drop (k + 1)) most most with
        | none => rfl
        | some q =>
          obtain ⟨l, r⟩ := q
          simp only [List.append_assoc]
          rfl
    · rw [dec_lt, decide_eq_false h, decide_eq_true (show s.length ≤ rm by omega), cond_false, cond_true]
      simp only [List.append_nil]

theorem foldLines_len : ∀ (f : Nat) (s : List UInt8) (rm most : Nat) (l : List (List UInt8)) (r : List UInt8), foldLines f s rm most = some (l, r) → (joinCL l).length + r.length ≤ 3 * s.length
  | 0, s, rm, most, l, r, h => by cases h
  | f + 1, s, rm, most, l, r, h => by
    unfold foldLines at h
    by_cases h1 : s.length ≤ rm
    · rw [decide_eq_true h1, cond_true] at h
      cases h
      simp [joinCL]
      omega
    · rw [decide_eq_false h1, cond_false] at h
      have hle := spAt_le s rm
      generalize spAt s rm = k at h hle
      cases k with
      | zero => cases h
      | succ k =>
        simp only at h
        cases hq : foldLines f (s.drop (k + 1)) most most with
        | none => rw [hq] at h; cases h
        | some q =>
          obtain ⟨l', r'⟩ := q
          rw [hq] at h
          cases h
          have ih := foldLines_len f _ _ _ _ _ hq
          rw [List.length_drop] at ih
          unfold joinCL at ih ⊢
          rw [List.flatMap_cons]
          simp only [List.length_append, List.length_cons, List.length_nil, List.length_take]
          omega

theorem rooms_ok {first most : Int} (h : badRooms first most = false) : 1 ≤ most ∧ most ≤ 1000 ∧ 0 ≤ first ∧ first ≤ most := by
  unfold badRooms at h
  simp only [Bool.or_eq_false_iff, decide_eq_false_iff_not] at h
  omega

theorem fold_Fold_math : ∀ (s0 : List UInt8) (first1 : Int) (most2 : Int), (fold_Fold_ok s0 first1 most2 = true) → ∃ n, fold_Fold_sh n s0 first1 most2 = fold_Fold_ret (fold_Fold s0 first1 most2).1 (fold_Fold s0 first1 most2).2 := fun s a b h => ⟨2 * s.length + 2000, by
  have hl := lenOk_le h
  unfold fold_Fold_sh fold_Fold
  rw [show fold_check_ok s a b = true from h]
  cases hc : fold_check s a b != 0 with
  | true => rfl
  | false =>
    have hb : badRooms a b = false := by
      cases hb : badRooms a b with
      | false => rfl
      | true => unfold fold_check at hc; rw [hb] at hc; cases hc
    obtain ⟨h1, h2, h3, h4⟩ := rooms_ok hb
    obtain ⟨most, rfl⟩ : ∃ m : Nat, b = m := ⟨b.toNat, by omega⟩
    obtain ⟨first, rfl⟩ : ∃ m : Nat, a = m := ⟨a.toNat, by omega⟩
    rw [toNat_nat, toNat_nat]
    have := fold_l6 fold_Fold_ret (fold_Fold_k6_0 (2 * s.length + 2000)) most (s.length + 1) s first [] (2 * s.length + 2000) (by omega) (by omega) (by omega) hl (by simp; omega)
    refine this.trans ?_
    cases hq : foldLines (s.length + 1) s first most with
    | none => rfl
    | some q =>
      obtain ⟨l, r⟩ := q
      have hlen := foldLines_len _ _ _ _ _ _ hq
      show fold_Fold_k6_0 (2 * s.length + 2000) r ([] ++ l) = _
      unfold fold_Fold_k6_0 lines_Join_ok lines_Join
      rw [List.nil_append, decide_eq_true (by omega), decide_eq_true (by unfold room; omega)]
      rfl⟩

theorem law27_alive_math : ∃ n, law27_alive_sh n  = law27_alive_ret law27_alive := ⟨0, by kernel_rfl⟩
theorem like_self (s : List UInt8) : ref01_Like s s = true := decide_eq_true rfl
theorem law27_FoldUnfolds_math : ∀ (s0 : List UInt8), ∃ n, law27_FoldUnfolds_sh n s0 = law27_FoldUnfolds_ret (law27_FoldUnfolds s0) := fun s => ⟨0, by
  unfold law27_FoldUnfolds_sh
  by_cases h : (1000 : Int) < ((s.length : Nat) : Int)
  · rw [decide_eq_true h]; rfl
  · have hs : lenOk s = true := by unfold lenOk; rw [decide_eq_true_eq]; omega
    have hu := lenOk_mono hs (unf_le s)
    rw [decide_eq_false h, show ref27_Unfold_ok s = true from hs, show fold_Unfold_ok s = true from hs, show ref01_Like_ok (fold_Unfold s) (ref27_Unfold s).1 = true from hu, show (ref27_Unfold s).1 = fold_Unfold s from rfl, like_self,
      show fold_Folds_ok s = true from hs, show (ref27_Unfold s).2 = fold_Folds s from rfl, beq_self_eq_true, show fold_Right_ok s = true from hs, show ref27_Right_ok s = true from hs, show ref27_Right s = fold_Right s from rfl, beq_self_eq_true]
    rfl⟩
end Go.Av
