/-
  Encoded words; kinds.
-/
import Derived.Test.YtnfehbljinflbaaDoorEtP5
namespace Go.Av
theorem cutC_mem (c : UInt8) : ∀ (s cur x : List UInt8), x ∈ cutC c cur s → x.length ≤ cur.length + s.length
  | [], cur, x, h => by
    have : x ∈ [cur] := h
    simp only [List.mem_singleton] at this
    subst this
    exact Nat.le_refl _
  | y :: r, cur, x, h => by
    rw [cutC_cons] at h
    cases hy : (y == c) with
    | true =>
      rw [hy, cond_true] at h
      rcases List.mem_cons.1 h with rfl | h
      · exact Nat.le_add_right _ _
      · have := cutC_mem c r [] x h
        simp only [List.length_nil, List.length_cons] at this ⊢
        omega
    | false =>
      rw [hy, cond_false] at h
      have := cutC_mem c r _ x h
      simp only [List.length_append, List.length_cons, List.length_nil] at this ⊢
      omega
theorem five {α : Type} {L : List α} (h : L.length = 5) : ∃ a n c t b, L = [a, n, c, t, b] := by
  match L, h with
  | [a, n, c, t, b], _ => exact ⟨a, n, c, t, b, rfl⟩
theorem parseL_not (k : Nat) {L : List (List UInt8)} (h : L.length ≠ 5) : parseL k L = (noWord, 3) := by
  unfold parseL
  split
  · exact absurd rfl h
  · rfl
theorem parseL_five (k : Nat) (a name c text b : List UInt8) : parseL k [a, name, c, text, b] = bif decide (a = [61]) && decide (b = [61]) then (bif (codeL c == 0) || (!(fullB name 64) || !(fullB text 4)) then (noWord, 3) else bif decide (75 < k) then (noWord, 12) else ((name, (codeL c, (text, ()))), 0)) else (noWord, 3) := rfl
theorem ewform_Parse_math : ∀ (s0 : List UInt8), (ewform_Parse_ok s0 = true) → ∃ n, ewform_Parse_sh n s0 = ewform_Parse_ret (ewform_Parse s0).1 (ewform_Parse s0).2 := fun s h => ⟨0, by
  have hl := lenOk_le h
  have hok : bytes_Split_ok s [63] = true := by unfold bytes_Split_ok; rw [show lenOk s = true from h]; rfl
  have hmem : ∀ x ∈ cutC 63 [] s, x.length ≤ 1048576 := fun x hx => by
    have := cutC_mem 63 s [] x hx
    simp only [List.length_nil] at this
    omega
  unfold ewform_Parse_sh ewform_Parse
  rw [hok, show bytes_Split s [63] = cutC 63 [] s from rfl]
  generalize cutC 63 [] s = L at hmem ⊢
  have h75 : decide ((75 : Int) < ((s.length : Nat) : Int)) = decide (75 < s.length) := by rw [Bool.eq_iff_iff]; simp only [decide_eq_true_eq]; omega
  rw [h75]
  generalize hk : s.length = k
  by_cases h5 : L.length = 5
  · obtain ⟨a, n, c, t, b, rfl⟩ := five h5
    have okn : bytes_Clone_ok n = true := lenOk_of (hmem n (by simp))
    have okt : bytes_Clone_ok t = true := lenOk_of (hmem t (by simp))
    have okc : ewform_code_ok c = true := lenOk_of (hmem c (by simp))
    have okn2 : ewform_full_ok n 64 = true := lenOk_of (hmem n (by simp))
    have okt2 : ewform_full_ok t 4 = true := lenOk_of (hmem t (by simp))
    have c0 : (decide ((0 : Int) ≤ 0) && decide ((0 : Int) < ((List.length [a, n, c, t, b] : Nat) : Int))) = true := rfl
    have c1 : (decide ((0 : Int) ≤ 1) && decide ((1 : Int) < ((List.length [a, n, c, t, b] : Nat) : Int))) = true := rfl
    have c2 : (decide ((0 : Int) ≤ 2) && decide ((2 : Int) < ((List.length [a, n, c, t, b] : Nat) : Int))) = true := rfl
    have c3 : (decide ((0 : Int) ≤ 3) && decide ((3 : Int) < ((List.length [a, n, c, t, b] : Nat) : Int))) = true := rfl
    have c4 : (decide ((0 : Int) ≤ 4) && decide ((4 : Int) < ((List.length [a, n, c, t, b] : Nat) : Int))) = true := rfl
    have g0 : List.getD [a, n, c, t, b] (Int.toNat 0) [] = a := rfl
    have g1 : List.getD [a, n, c, t, b] (Int.toNat 1) [] = n := rfl
    have g2 : List.getD [a, n, c, t, b] (Int.toNat 2) [] = c := rfl
    have g3 : List.getD [a, n, c, t, b] (Int.toNat 3) [] = t := rfl
    have g4 : List.getD [a, n, c, t, b] (Int.toNat 4) [] = b := rfl
    have e5 : ((((List.length [a, n, c, t, b] : Nat)) : Int) != 5) = false := rfl
    have ecl : ∀ x, bytes_Clone x = x := fun _ => rfl
    simp only [e5, c0, c1, c2, c3, c4, g0, g1, g2, g3, g4, okn, okt, okc, okn2, okt2, ecl, both_self, cond_true, cond_false, Bool.and_true]
    show _ = ewform_Parse_ret (parseL k [a, n, c, t, b]).1 (parseL k [a, n, c, t, b]).2
    unfold parseL
    simp only [show ewform_code c = codeL c from rfl, show ewform_full n 64 = fullB n 64 from rfl, show ewform_full t 4 = fullB t 4 from rfl]
    by_cases ha : a = [61]
    · by_cases hb : b = [61]
      · subst ha hb
        simp only [decide_true, Bool.and_true, cond_true, bne_self_eq_false, cond_false]
        cases (codeL c == 0) <;> cases fullB n 64 <;> cases fullB t 4 <;> cases decide (75 < k) <;> rfl
      · rw [decide_eq_false hb, Bool.and_false, show (b != [61]) = true from bne_iff_ne.2 hb, cond_true]
        subst ha
        rfl
    · rw [decide_eq_false ha, Bool.false_and, show (a != [61]) = true from bne_iff_ne.2 ha, cond_true]
      rfl
  · rw [bneT (by omega), parseL_not k h5]
    rfl⟩
theorem ewform_Is_math : ∀ (s0 : List UInt8), (ewform_Is_ok s0 = true) → ∃ n, ewform_Is_sh n s0 = ewform_Is_ret (ewform_Is s0) := fun s h => ⟨0, by
  unfold ewform_Is_sh
  rw [show ewform_Parse_ok s = true from h]
  rfl⟩
theorem ref29_Parse_math : ∀ (s0 : List UInt8), (ref29_Parse_ok s0 = true) → ∃ n, ref29_Parse_sh n s0 = ref29_Parse_ret (ref29_Parse s0).1 (ref29_Parse s0).2 := fun s h => ⟨0, by
  have hl := lenOk_le h
  have hmem : ∀ x ∈ cutC 63 [] s, x.length ≤ 1048576 := fun x hx => by
    have := cutC_mem 63 s [] x hx
    simp only [List.length_nil] at this
    omega
  unfold ref29_Parse_sh ref29_Parse ewform_Parse
  rw [show ref29_cut_ok s = true from h, show ref29_cut s = cutC 63 [] s from rfl]
  generalize cutC 63 [] s = L at hmem ⊢
  have h75 : decide ((75 : Int) < ((s.length : Nat) : Int)) = decide (75 < s.length) := by rw [Bool.eq_iff_iff]; simp only [decide_eq_true_eq]; omega
  rw [h75]
  generalize hk : s.length = k
  by_cases h5 : L.length = 5
  · obtain ⟨a, n, c, t, b, rfl⟩ := five h5
    have okn2 : ref01_Count_ok n 64 = true := lenOk_of (hmem n (by simp))
    have okt2 : ref01_Count_ok t 4 = true := lenOk_of (hmem t (by simp))
    have c0 : (decide ((0 : Int) ≤ 0) && decide ((0 : Int) < ((List.length [a, n, c, t, b] : Nat) : Int))) = true := rfl
    have c1 : (decide ((0 : Int) ≤ 1) && decide ((1 : Int) < ((List.length [a, n, c, t, b] : Nat) : Int))) = true := rfl
    have c2 : (decide ((0 : Int) ≤ 2) && decide ((2 : Int) < ((List.length [a, n, c, t, b] : Nat) : Int))) = true := rfl
    have c3 : (decide ((0 : Int) ≤ 3) && decide ((3 : Int) < ((List.length [a, n, c, t, b] : Nat) : Int))) = true := rfl
    have c4 : (decide ((0 : Int) ≤ 4) && decide ((4 : Int) < ((List.length [a, n, c, t, b] : Nat) : Int))) = true := rfl
    have g0 : List.getD [a, n, c, t, b] (Int.toNat 0) [] = a := rfl
    have g1 : List.getD [a, n, c, t, b] (Int.toNat 1) [] = n := rfl
    have g2 : List.getD [a, n, c, t, b] (Int.toNat 2) [] = c := rfl
    have g3 : List.getD [a, n, c, t, b] (Int.toNat 3) [] = t := rfl
    have g4 : List.getD [a, n, c, t, b] (Int.toNat 4) [] = b := rfl
    have e5 : ((((List.length [a, n, c, t, b] : Nat)) : Int) != 5) = false := rfl
    have full : ∀ (x : List UInt8) (q : Int), fullB x q = (!((((x.length : Nat) : Int)) == 0) && !(ref01_Count x q != ((x.length : Nat) : Int))) := fun x q => by
      unfold fullB
      cases x with
      | nil => rfl
      | cons y r =>
        rw [bneI (show (((y :: r).length : Nat) : Int) ≠ 0 by simp only [List.length_cons]; omega)]
        show (true && List.all (y :: r) _) = (true && _)
        rw [Bool.true_and, Bool.true_and, Bool.eq_iff_iff]
        show _ ↔ (!((((y :: r).countP (fun c => octet_Is c q) : Nat) : Int) != (((y :: r).length : Nat) : Int))) = true
        rw [List.all_eq_true]
        constructor
        · intro hh
          rw [bneF (by rw [List.countP_eq_length.2 hh])]
          rfl
        · intro hh
          have : (y :: r).countP (fun c => octet_Is c q) = (y :: r).length := by
            rcases Decidable.em ((y :: r).countP (fun c => octet_Is c q) = (y :: r).length) with e | e
            · exact e
            · rw [bneT (by omega)] at hh
              cases hh
          exact List.countP_eq_length.1 this
    show _ = ref29_Parse_ret (parseL k [a, n, c, t, b]).1 (parseL k [a, n, c, t, b]).2
    rw [parseL_five, full n 64, full t 4]
    simp only [e5, c0, c1, c2, c3, c4, g0, g1, g2, g3, g4, okn2, okt2, cond_true, cond_false, Bool.and_true]
    by_cases ha : a = [61]
    · by_cases hb : b = [61]
      · subst ha hb
        simp only [decide_true, Bool.and_true, cond_true, bne_self_eq_false, cond_false]
        match c with
        | [] => rfl
        | [x] =>
          show _ = ref29_Parse_ret _ _
          have q0 : (((([x] : List UInt8).length : Nat) : Int) != 1) = false := rfl
          have q1 : (decide ((0 : Int) ≤ 0) && decide ((0 : Int) < ((List.length [x] : Nat) : Int))) = true := rfl
          have q2 : List.getD [x] (Int.toNat 0) 0 = x := rfl
          have q3 : codeL [x] = codeC x := rfl
          simp only [q0, q1, q2, q3, show ref29_code x = codeC x from rfl, cond_true, cond_false]
          cases (codeC x == 0) <;> cases ((((n.length : Nat)) : Int) == 0) <;> cases (ref01_Count n 64 != ((n.length : Nat) : Int)) <;> cases ((((t.length : Nat)) : Int) == 0) <;> cases (ref01_Count t 4 != ((t.length : Nat) : Int)) <;> cases decide (75 < k) <;> rfl
        | x :: y :: r =>
          have q0 : ((((x :: y :: r).length : Nat) : Int) != 1) = true := bneT (by simp only [List.length_cons]; omega)
          rw [q0]
          rfl
      · rw [decide_eq_false hb, Bool.and_false, show (b != [61]) = true from bne_iff_ne.2 hb, cond_true]
        subst ha
        rfl
    · rw [decide_eq_false ha, Bool.false_and, show (a != [61]) = true from bne_iff_ne.2 ha, cond_true]
      rfl
  · rw [bneT (by omega), parseL_not k h5]
    rfl⟩
end Go.Av
