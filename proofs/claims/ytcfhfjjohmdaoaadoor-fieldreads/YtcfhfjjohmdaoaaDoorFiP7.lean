/-
  Lines; the raw texts of a block.
-/
import Derived.Test.YtcfhfjjohmdaoaaDoorFiP6
namespace Go.Av
theorem getD_last {α : Type} (pre : List α) (c d : α) : List.getD (pre ++ [c]) pre.length d = c := by simp
theorem set_last {α : Type} (pre : List α) (c y : α) : List.set (pre ++ [c]) pre.length y = pre ++ [y] := by
  rw [List.set_append_right _ _ (Nat.le_refl _), Nat.sub_self]
  rfl
theorem splitS_nil (cur : List UInt8) : splitS cur [] = [cur] := rfl
theorem splitS_step (cur : List UInt8) (c : UInt8) (r : List UInt8) : splitS cur (c :: r) = if c = 13 ∧ r.head? = some 10 then cur :: splitS [] (r.drop 1) else splitS (cur ++ [c]) r := by
  have h : lineB true [] r = splitS [] (r.drop 1) := by cases r <;> rfl
  unfold splitS
  rw [show lineB false cur (c :: r) = if c = 13 ∧ r.head? = some 10 then cur :: lineB true [] r else lineB false (cur ++ [c]) r from rfl, h]
  rfl
theorem head_getD {s : List UInt8} {i : Nat} : (s.drop i).head? = some 10 ↔ (i < s.length ∧ s.getD i 0 = 10) := by
  rw [List.head?_drop]
  constructor
  · intro h
    obtain ⟨h1, h2⟩ := List.getElem?_eq_some_iff.1 h
    exact ⟨h1, by simp [List.getD, h1, h2]⟩
  · intro ⟨h1, h2⟩
    simp [List.getD, h1] at h2
    rw [List.getElem?_eq_getElem h1, h2]
theorem lines_loop (k0 : List (List UInt8) → Option AV) (s : List UInt8) (hl : s.length ≤ 1048576) : ∀ (d i n : Nat) (pre : List (List UInt8)) (cur : List UInt8), i + d = s.length → d < n → pre.length + d ≤ 1048576 → cur.length + d ≤ 1048576 →
    ref18_Lines_l3 k0 n s (pre ++ [cur]) (i : Nat) = k0 (pre ++ splitS cur (s.drop i)) := by
  intro d
  induction d using Nat.strongRecOn with
  | ind d ih =>
    intro i n pre cur hi hn hp hc
    cases n with
    | zero => omega
    | succ n =>
      show ref18_Lines_l3_b k0 (ref18_Lines_l3 k0 n) n _ _ _ = _
      unfold ref18_Lines_l3_b
      by_cases hlt : i < s.length
      · have hlen : (pre ++ [cur]).length = pre.length + 1 := by simp
        have hw : IntKind.wrap .i64 (((pre ++ [cur]).length : Int) - 1) = ((pre.length : Nat) : Int) := by rw [wr (by omega)]; omega
        rw [getD_drop (d := (0 : UInt8)) hlt, splitS_step]
        have one : ref18_Lines_l3 k0 n s (pre ++ [cur ++ [s.getD i 0]]) ((i + 1 : Nat) : Int) = k0 (pre ++ splitS (cur ++ [s.getD i 0]) (s.drop (i + 1))) := ih (d - 1) (by omega) (i + 1) n pre _ (by omega) (by omega) (by omega) (by simp; omega)
        have hr : decide ((cur.length : Nat) + ([s.getD i 0] : List UInt8).length ≤ room) = true := dT (by unfold room; simp; omega)
        have h13 : (s.getD i 0 == 13) = decide (s.getD i 0 = 13) := rfl
        rw [hw]
        simp (disch := omega) only [dT, cond_true, Bool.and_true, tn, i64_succ, getD_last, set_last, hr, h13, beq_self_eq_true]
        by_cases h1 : s.getD i 0 = 13
        · rw [decide_eq_true h1, cond_true]
          by_cases h2 : i + 1 < s.length
          · simp (disch := omega) only [dT, cond_true, Bool.and_true, tn, i64_succ]
            by_cases h3 : s.getD (i + 1) 0 = 10
            · rw [show (s.getD (i + 1) 0 == 10) = true from beq_iff_eq.2 h3, cond_true, if_pos ⟨h1, head_getD.2 ⟨h2, h3⟩⟩, dT (show (pre ++ [cur]).length + ([[]] : List (List UInt8)).length ≤ room by unfold room; simp; omega), cond_true, List.drop_drop]
              have := ih (d - 2) (by omega) (i + 2) n (pre ++ [cur]) [] (by omega) (by omega) (by simp; omega) (by simp; omega)
              refine Eq.trans this ?_
              rw [List.append_assoc, List.singleton_append]
            · rw [show (s.getD (i + 1) 0 == 10) = false from beq_eq_false_iff_ne.2 h3, cond_false, if_neg (fun h => h3 (head_getD.1 h.2).2)]
              exact one
          · rw [dF (by omega), cond_false, if_neg (fun h => h2 (head_getD.1 h.2).1)]
            exact one
        · rw [decide_eq_false h1, cond_false, if_neg (fun h => h1 h.1)]
          exact one
      · rw [dF (by omega), cond_false, List.drop_eq_nil_of_le (by omega)]
        rfl
theorem splitS_ne : ∀ (s cur : List UInt8), splitS cur s ≠ []
  | [], cur => by simp [splitS_nil]
  | c :: r, cur => by
    rw [splitS_step]
    split
    · simp
    · exact splitS_ne r _
theorem linesEnd_last : ∀ (pre : List (List UInt8)) (x : List UInt8), linesEnd (pre ++ [x]) = if x = [] then (pre, true) else (pre ++ [x], false)
  | [], x => by
    simp only [List.nil_append, linesEnd]
  | a :: pre, x => by
    have ih := linesEnd_last pre x
    have : linesEnd (a :: pre ++ [x]) = (a :: (linesEnd (pre ++ [x])).1, (linesEnd (pre ++ [x])).2) := by
      cases pre with
      | nil => rfl
      | cons b p => rfl
    rw [this, ih]
    split <;> rfl
theorem ref18_Lines_math : ∀ (s0 : List UInt8), (ref18_Lines_ok s0 = true) → ∃ n, ref18_Lines_sh n s0 = ref18_Lines_ret (ref18_Lines s0).1 (ref18_Lines s0).2 := fun s h => ⟨s.length + 1, by
  have hl := lenOk_le h
  unfold ref18_Lines_sh
  refine (lines_loop (ref18_Lines_k3_0 (s.length + 1)) s hl s.length 0 (s.length + 1) [] [] (by omega) (by omega) (by simp; omega) (by simp; omega)).trans ?_
  rw [List.nil_append, List.drop_zero]
  unfold ref18_Lines
  have hlen : (splitS [] s).length ≤ s.length + 1 := by
    have : ∀ (n : Nat) (s cur : List UInt8), s.length ≤ n → (splitS cur s).length ≤ s.length + 1 := by
      intro n
      induction n with
      | zero => intro s cur h0; cases s with
        | nil => simp [splitS_nil]
        | cons a b => simp at h0
      | succ n ih =>
        intro s cur h0
        cases s with
        | nil => simp [splitS_nil]
        | cons c r =>
          rw [splitS_step]
          simp only [List.length_cons] at h0 ⊢
          split
          · have := ih (r.drop 1) [] (by simp; omega)
            simp only [List.length_cons, List.length_drop] at this ⊢
            omega
          · have := ih r (cur ++ [c]) (by omega)
            omega
    exact this s.length s [] (Nat.le_refl _)
  rcases List.eq_nil_or_concat (splitS [] s) with h0 | ⟨pre, x, h0⟩
  · exact absurd h0 (splitS_ne s [])
  · rw [List.concat_eq_append] at h0
    rw [h0] at hlen ⊢
    rw [linesEnd_last]
    have hl2 : (pre ++ [x]).length = pre.length + 1 := by simp
    have hw : IntKind.wrap .i64 (((pre ++ [x]).length : Int) - 1) = ((pre.length : Nat) : Int) := by rw [wr (by omega)]; omega
    unfold ref18_Lines_k3_0
    rw [hw]
    have ht : List.drop (Int.toNat ((0 : Nat) : Int)) (List.take pre.length (pre ++ [x])) = pre := by simp
    simp (disch := omega) only [dT, cond_true, Bool.and_true, tn, getD_last, ht]
    cases x with
    | nil => rw [if_pos rfl]; simp
    | cons a b => rw [if_neg (by simp), bneI (by simp only [List.length_cons]; omega)]; rfl⟩
theorem ref26_Split_math : ∀ (s0 : List UInt8), (ref26_Split_ok s0 = true) → ∃ n, ref26_Split_sh n s0 = ref26_Split_ret (ref26_Split s0) := fun s h => ⟨0, by
  unfold ref26_Split_sh
  rw [show ref18_Lines_ok s = true from h]
  rfl⟩

theorem crlf_head (c : UInt8) (r : List UInt8) : (([13, 10] : List UInt8).isPrefixOf (c :: r)) = decide (c = 13 ∧ r.head? = some 10) := by
  cases r with
  | nil => simp [List.isPrefixOf]
  | cons e r =>
    simp only [List.isPrefixOf, Bool.and_true, List.head?_cons, Option.some.injEq]
    rw [Bool.eq_iff_iff]
    simp only [Bool.and_eq_true, beq_iff_eq, decide_eq_true_eq]
    exact ⟨fun h => ⟨h.1.symm, h.2.symm⟩, fun h => ⟨h.1.symm, h.2.symm⟩⟩
theorem idx_cons (c : UInt8) (r : List UInt8) : Lib.index (c :: r) [13, 10] = if c = 13 ∧ r.head? = some 10 then 0 else if Lib.index r [13, 10] = -1 then -1 else Lib.index r [13, 10] + 1 := by
  have : Lib.index (c :: r) [13, 10] = if ([13, 10] : List UInt8).isPrefixOf (c :: r) then 0 else if Lib.index r [13, 10] == -1 then -1 else Lib.index r [13, 10] + 1 := rfl
  rw [this, crlf_head]
  by_cases h : c = 13 ∧ r.head? = some 10
  · rw [if_pos h, if_pos (by simpa using h)]
  · rw [if_neg h, if_neg (by simpa using h)]
    by_cases h2 : Lib.index r [13, 10] = -1
    · simp [h2]
    · rw [if_neg h2, if_neg (by simpa using h2)]
theorem head_drop {r : List UInt8} (h : r.head? = some 10) : 1 ≤ r.length := by cases r with
  | nil => cases h
  | cons a b => simp
/-- Where the first line ends. -/
theorem split_cut : ∀ (s cur : List UInt8), (Lib.index s [13, 10] = -1 ∧ splitS cur s = [cur ++ s]) ∨
    (∃ k : Nat, Lib.index s [13, 10] = k ∧ k + 2 ≤ s.length ∧ splitS cur s = (cur ++ s.take k) :: splitS [] (s.drop (k + 2)))
  | [], cur => .inl ⟨rfl, by simp [splitS_nil]⟩
  | c :: r, cur => by
    rw [idx_cons, splitS_step]
    by_cases h : c = 13 ∧ r.head? = some 10
    · right
      rw [if_pos h, if_pos h]
      refine ⟨0, rfl, by have := head_drop h.2; simp; omega, ?_⟩
      simp
    · rw [if_neg h, if_neg h]
      rcases split_cut r (cur ++ [c]) with ⟨h1, h2⟩ | ⟨k, h1, h2, h3⟩
      · left
        rw [h1, if_pos rfl, h2]
        exact ⟨rfl, by simp⟩
      · right
        refine ⟨k + 1, by rw [h1, if_neg (by omega)]; omega, by simp; omega, ?_⟩
        rw [h3]
        simp
theorem cut_crlf (s : List UInt8) : (bytes_Cut s [13, 10] = (s, [], false) ∧ splitS [] s = [s] ∧ Lib.index s [13, 10] = -1) ∨
    (∃ k : Nat, k + 2 ≤ s.length ∧ bytes_Cut s [13, 10] = (s.take k, s.drop (k + 2), true) ∧ splitS [] s = s.take k :: splitS [] (s.drop (k + 2)) ∧ Lib.index s [13, 10] = k) := by
  rcases split_cut s [] with ⟨h1, h2⟩ | ⟨k, h1, h2, h3⟩
  · left
    refine ⟨?_, by simpa using h2, h1⟩
    unfold bytes_Cut
    rw [h1]
    rfl
  · right
    refine ⟨k, h2, ?_, by simpa using h3, h1⟩
    unfold bytes_Cut
    rw [h1, dT (by omega), cond_true, tn]
    rfl
def linesOf (s : List UInt8) : List (List UInt8) := (linesEnd (splitS [] s)).1
theorem linesOf_nil : linesOf [] = [] := rfl
theorem linesEnd_cons (x : List UInt8) (l : List (List UInt8)) (h : l ≠ []) : (linesEnd (x :: l)).1 = x :: (linesEnd l).1 := by
  cases l with
  | nil => exact absurd rfl h
  | cons a b => rfl
theorem linesOf_cons (s : List UInt8) (h : s ≠ []) : linesOf s = (bytes_Cut s [13, 10]).1 :: linesOf (bytes_Cut s [13, 10]).2.1 := by
  unfold linesOf
  rcases cut_crlf s with ⟨h1, h2, _⟩ | ⟨k, h1, h2, h3, _⟩
  · rw [h1, h2]
    show (linesEnd [s]).1 = s :: (linesEnd [[]]).1
    simp [linesEnd, h]
  · rw [h2, h3]
    exact linesEnd_cons _ _ (splitS_ne _ _)
theorem cut2_ok {s : List UInt8} (h : lenOk s = true) : bytes_Cut_ok s [13, 10] = true := by unfold bytes_Cut_ok; rw [h]; rfl
/-- The line and what is behind it are shorter. -/
theorem cut_short (s : List UInt8) (h : s ≠ []) : (bytes_Cut s [13, 10]).2.1.length < s.length ∧ ((bytes_Cut s [13, 10]).2.1 = [] ∨ (bytes_Cut s [13, 10]).1.length + 2 + (bytes_Cut s [13, 10]).2.1.length = s.length) ∧ (bytes_Cut s [13, 10]).1.length ≤ s.length := by
  have hp : 0 < s.length := List.length_pos_iff.2 h
  rcases cut_crlf s with ⟨h1, h2, _⟩ | ⟨k, h1, h2, h3, _⟩
  · rw [h1]
    exact ⟨hp, .inl rfl, Nat.le_refl _⟩
  · rw [h2]
    refine ⟨by simp; omega, .inr ?_, by simp; omega⟩
    simp only [List.length_take, List.length_drop]
    omega
theorem glue_eq (l : List (List UInt8)) (x : List UInt8) : glue l x = List.set l (l.length - 1) ((List.getD l (l.length - 1) [] ++ [13, 10]) ++ x) := rfl
theorem glue_mem {l : List (List UInt8)} {x y : List UInt8} (hl : l ≠ []) (h : y ∈ glue l x) : y ∈ l ∨ ∃ z ∈ l, y = z ++ [13, 10] ++ x := by
  unfold glue at h
  rcases List.mem_or_eq_of_mem_set h with h | h
  · exact .inl h
  · right
    have hp : 0 < l.length := List.length_pos_iff.2 hl
    refine ⟨List.getD l (l.length - 1) [], ?_, h⟩
    rw [List.getD_eq_getElem?_getD, List.getElem?_eq_getElem (by omega)]
    exact List.getElem_mem _
theorem parts_loop (ret : List (List UInt8) → List UInt8 → Option AV) (k0 : List (List UInt8) → Option AV) (hk : ∀ l, k0 l = ret l []) : ∀ (f : Nat) (t : List UInt8) (l : List (List UInt8)) (n : Nat), t.length < f → f ≤ n → t.length ≤ 1048576 → (t = [] ∨ ((∀ x ∈ l, x.length + t.length ≤ 1048576) ∧ l.length + t.length ≤ 1048576)) →
    field_parts_l2 ret k0 n t l = ret (partsF f l t).1 (partsF f l t).2
  | 0, t, l, n, hf, hn, ht, hi => by omega
  | f + 1, t, l, 0, hf, hn, ht, hi => by omega
  | f + 1, t, l, n + 1, hf, hn, ht, hi => by
    show field_parts_l2_b ret k0 (field_parts_l2 ret k0 n) n t l = _
    unfold field_parts_l2_b partsF
    by_cases h0 : t = []
    · subst h0
      rw [if_pos rfl]
      exact hk l
    · obtain ⟨hs1, hs2, hs3⟩ := cut_short t h0
      have hp : 0 < t.length := List.length_pos_iff.2 h0
      obtain ⟨hi1, hi2⟩ := hi.resolve_left h0
      have hc : bytes_Cut_ok t [13, 10] = true := cut2_ok (lenOk_of ht)
      rw [if_neg h0, dT (show (0 : Int) < (t.length : Int) by omega), hc]
      simp only [cond_true, Bool.and_true]
      generalize hcut : bytes_Cut t [13, 10] = cu at hs1 hs2 hs3
      obtain ⟨line, rest, b⟩ := cu
      simp only at hs1 hs2 hs3 ⊢
      cases line with
      | nil => rfl
      | cons c r =>
        rw [bneI (show (((c :: r).length : Nat) : Int) ≠ 0 by simp only [List.length_cons]; omega), cond_false, if_neg (by simp)]
        have push : field_parts_l2 ret k0 n rest (l ++ [c :: r]) = ret (partsF f (l ++ [c :: r]) rest).1 (partsF f (l ++ [c :: r]) rest).2 :=
          parts_loop ret k0 hk f rest (l ++ [c :: r]) n (by omega) (by omega) (by omega) (by
            refine hs2.imp id fun hs2 => ⟨fun x hx => ?_, by simp; omega⟩
            rcases List.mem_append.1 hx with hx | hx
            · have := hi1 x hx; omega
            · simp only [List.mem_singleton] at hx; subst hx; omega)
        rw [show bytes_Clone_ok (c :: r) = true from lenOk_of (by omega), show bytes_Clone (c :: r) = c :: r from rfl, dT (show l.length + ([c :: r] : List (List UInt8)).length ≤ room by unfold room; simp; omega)]
        cases hb : field_blank (c :: r) with
        | false => exact push
        | true =>
          rw [cond_true, Bool.true_and]
          rcases List.eq_nil_or_concat l with rfl | ⟨pre, x, rfl⟩
          · rw [show IntKind.wrap .i64 (((([] : List (List UInt8)).length : Nat) : Int) - 1) = -1 from rfl, dF (by omega)]
            exact push
          · rw [List.concat_eq_append] at *
            have hlen : (pre ++ [x]).length = pre.length + 1 := by simp
            have hx := hi1 x (by simp)
            have hw : IntKind.wrap .i64 (((pre ++ [x]).length : Int) - 1) = ((pre.length : Nat) : Int) := by rw [wr (by omega)]; omega
            have hgl : glue (pre ++ [x]) (c :: r) = pre ++ [(x ++ [13, 10]) ++ (c :: r)] := by
              unfold glue
              rw [hlen, Nat.add_sub_cancel, getD_last, set_last]
            have ih := parts_loop ret k0 hk f rest (glue (pre ++ [x]) (c :: r)) n (by omega) (by omega) (by omega) (by
              refine hs2.imp id fun hs2 => ⟨fun y hy => ?_, by rw [hgl]; simp at hi2 ⊢; omega⟩
              rw [hgl] at hy
              rcases List.mem_append.1 hy with hy | hy
              · have := hi1 y (List.mem_append_left _ hy); omega
              · simp only [List.mem_singleton] at hy; subst hy; simp at hs2 ⊢; omega)
            rw [if_pos (by simp)]
            rw [hgl] at ih ⊢
            rw [hw]
            simp (disch := omega) only [dT, cond_true, Bool.and_true, tn, getD_last, set_last, beq_self_eq_true]
            have r1 : decide (x.length + ([13, 10] : List UInt8).length ≤ room) = true := dT (by unfold room; simp; omega)
            have r2 : decide ((x ++ ([13, 10] : List UInt8)).length + (c :: r).length ≤ room) = true := dT (by unfold room; simp at hx hs3 ⊢; omega)
            rw [r1, r2]
            exact ih
theorem field_parts_math : ∀ (s0 : List UInt8), (field_parts_ok s0 = true) → ∃ n, field_parts_sh n s0 = field_parts_ret (field_parts s0).1 (field_parts s0).2 := fun s h => ⟨s.length + 1, by
  have hl := lenOk_le h
  unfold field_parts_sh
  exact parts_loop field_parts_ret (field_parts_k2_0 (s.length + 1)) (fun _ => rfl) (s.length + 1) s [] (s.length + 1) (by omega) (by omega) hl (.inr ⟨fun x hx => (by cases hx), by simp; omega⟩)⟩
end Go.Av
