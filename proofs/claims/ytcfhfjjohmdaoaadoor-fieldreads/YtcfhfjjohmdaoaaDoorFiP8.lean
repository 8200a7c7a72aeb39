/-
  The document's raw texts; blocks read, laid, searched.
-/
import Derived.Test.YtcfhfjjohmdaoaaDoorFiP7
namespace Go.Av
theorem i64_preds {i : Nat} (h : i < 4611686018427387904) : IntKind.wrap .i64 ((((i + 1 : Nat)) : Int) - 1) = ((i : Nat) : Int) := by rw [wr (by omega)]; omega
theorem field_Raw_math : ∀ (s0 : List UInt8), (field_Raw_ok s0 = true) → ∃ n, field_Raw_sh n s0 = field_Raw_ret (field_Raw s0) := fun s h => ⟨0, by
  unfold field_Raw_sh
  rw [show field_parts_ok s = true from h]
  rfl⟩
theorem partsF_le : ∀ (f : Nat) (l : List (List UInt8)) (t : List UInt8), (partsF f l t).2.length ≤ t.length
  | 0, _, _ => Nat.zero_le _
  | f + 1, l, t => by
    unfold partsF
    by_cases h0 : t = []
    · rw [if_pos h0]; simp
    · have hs := (cut_short t h0).1
      rw [if_neg h0]
      split
      · show (bytes_Cut t [13, 10]).2.1.length ≤ _
        omega
      · split
        · have := partsF_le f (glue l (bytes_Cut t [13, 10]).1) (bytes_Cut t [13, 10]).2.1; omega
        · have := partsF_le f (l ++ [(bytes_Cut t [13, 10]).1]) (bytes_Cut t [13, 10]).2.1; omega
theorem field_Body_math : ∀ (s0 : List UInt8), (field_Body_ok s0 = true) → ∃ n, field_Body_sh n s0 = field_Body_ret (field_Body s0) := fun s h => ⟨0, by
  have hl := lenOk_le h
  unfold field_Body_sh
  rw [show field_parts_ok s = true from h, show bytes_Clone_ok (field_parts s).2 = true from lenOk_of (Nat.le_trans (partsF_le _ _ _) hl)]
  rfl⟩

theorem raw_loop (ret : List (List UInt8) → List UInt8 → Option AV) (k0 : List (List UInt8) → Option AV) (hk : ∀ l, k0 l = ret l []) (s : List UInt8) (hl : s.length ≤ 1048576) (L : List (List UInt8)) (hL : L.length ≤ 1048577) :
    ∀ (f : Nat) (t : List UInt8) (at1 i : Nat) (l : List (List UInt8)) (n : Nat), t.length < f → f ≤ n → L.drop i = linesOf t → (t = [] ∨ (t = s.drop at1 ∧ at1 ≤ s.length)) → at1 ≤ 4194304 → i ≤ 1048577 →
    (t = [] ∨ ((∀ x ∈ l, x.length + t.length ≤ 1048576) ∧ l.length + t.length ≤ 1048576)) →
    ref48_Raw_l5 ret k0 n s l L (at1 : Nat) (i : Nat) = ret (partsF f l t).1 (partsF f l t).2
  | 0, t, at1, i, l, n, hf, hn, hd, ht, ha, hi, hv => by omega
  | f + 1, t, at1, i, l, 0, hf, hn, hd, ht, ha, hi, hv => by omega
  | f + 1, t, at1, i, l, n + 1, hf, hn, hd, ht, ha, hi, hv => by
    show ref48_Raw_l5_b ret k0 (ref48_Raw_l5 ret k0 n) n s l L at1 i = _
    unfold ref48_Raw_l5_b partsF
    by_cases h0 : t = []
    · subst h0
      rw [linesOf_nil] at hd
      have := List.drop_eq_nil_iff.1 hd
      rw [if_pos rfl, dF (by omega)]
      exact hk l
    · obtain ⟨hs1, hs2, hs3⟩ := cut_short t h0
      have hp : 0 < t.length := List.length_pos_iff.2 h0
      obtain ⟨hi1, hi2⟩ := hv.resolve_left h0
      obtain ⟨ht1, ht2⟩ := ht.resolve_left h0
      have htl : t.length = s.length - at1 := by rw [ht1, List.length_drop]
      rw [linesOf_cons t h0] at hd
      have hlt : i < L.length := by
        rcases Nat.lt_or_ge i L.length with h1 | h1
        · exact h1
        · rw [List.drop_eq_nil_of_le h1] at hd; cases hd
      have hd2 := hd
      rw [getD_drop (d := ([] : List UInt8)) hlt] at hd2
      simp only [List.cons.injEq] at hd2
      obtain ⟨hg, hd3⟩ := hd2
      rw [if_neg h0]
      have hcc := cut_crlf t
      generalize hcut : bytes_Cut t [13, 10] = cu at hs1 hs2 hs3 hg hd3 hcc
      obtain ⟨line, rest, b⟩ := cu
      simp only at hs1 hs2 hs3 hg hd3 hcc ⊢
      have hw1 : IntKind.wrap .i64 (((line.length : Nat) : Int) + 2) = ((line.length + 2 : Nat) : Int) := by rw [wr (by omega)]; omega
      have hw2 : IntKind.wrap .i64 (((at1 : Nat) : Int) + ((line.length + 2 : Nat) : Int)) = ((at1 + (line.length + 2) : Nat) : Int) := by rw [wr (by omega)]; omega
      simp (disch := omega) only [dT, cond_true, Bool.and_true, tn, hg, hw1, hw2, i64_succ]
      -- what follows
      have hrest : rest = [] ∨ (rest = s.drop (at1 + (line.length + 2)) ∧ at1 + (line.length + 2) ≤ s.length) := by
        rcases hcc with ⟨e1, _, _⟩ | ⟨k, e0, e1, _, _⟩
        · simp only [Prod.mk.injEq] at e1
          exact .inl e1.2.1
        · simp only [Prod.mk.injEq] at e1
          obtain ⟨e2, e3, _⟩ := e1
          have hk' : line.length = k := by rw [e2, List.length_take]; omega
          right
          rw [hk']
          refine ⟨?_, by omega⟩
          rw [e3, ht1, List.drop_drop]
      cases line with
      | nil =>
        have hr2 : rest = s.drop (at1 + 2) ∧ at1 + 2 ≤ s.length := by
          rcases hcc with ⟨e1, _, _⟩ | ⟨k, e0, e1, _, _⟩
          · simp only [Prod.mk.injEq] at e1
            exact absurd e1.1.symm h0
          · simp only [Prod.mk.injEq] at e1
            obtain ⟨e2, e3, _⟩ := e1
            have hk' : k = 0 := by
              have := congrArg List.length e2
              rw [List.length_take] at this
              simp only [List.length_nil] at this
              omega
            subst hk'
            exact ⟨by rw [e3, ht1, List.drop_drop], by omega⟩
        have hn1 : (([] : List UInt8).length : Nat) + 2 = 2 := rfl
        rw [if_pos rfl]
        simp only [hn1]
        rw [beqI (show ((([] : List UInt8).length : Nat) : Int) = 0 from rfl), dT (show ((at1 + 2 : Nat) : Int) ≤ (s.length : Int) by omega), List.take_length, hr2.1]
        rfl
      | cons c r =>
        have hlen : (c :: r).length = r.length + 1 := rfl
        rw [bneI (show (((c :: r).length : Nat) : Int) ≠ 0 by omega), cond_false, if_neg (by simp)]
        have hpush : ref48_Raw_l5 ret k0 n s (l ++ [c :: r]) L ((at1 + ((c :: r).length + 2) : Nat) : Int) ((i + 1 : Nat) : Int) = ret (partsF f (l ++ [c :: r]) rest).1 (partsF f (l ++ [c :: r]) rest).2 :=
          raw_loop ret k0 hk s hl L hL f rest _ (i + 1) (l ++ [c :: r]) n (by omega) (by omega) hd3 hrest (by omega) (by omega) (by
            refine hs2.imp id fun hs2 => ⟨fun x hx => ?_, by simp; omega⟩
            rcases List.mem_append.1 hx with hx | hx
            · have := hi1 x hx; omega
            · simp only [List.mem_singleton] at hx; subst hx; omega)
        have hroom : decide (l.length + ([c :: r] : List (List UInt8)).length ≤ room) = true := dT (by unfold room; simp; omega)
        have hb0 : ref01_Is (List.getD (c :: r) (Int.toNat 0) 0) 2 = field_blank (c :: r) := blanks c
        rw [hb0, hroom]
        simp (disch := omega) only [dT, cond_true, Bool.and_true]
        cases hb : field_blank (c :: r) with
        | false => exact hpush
        | true =>
          rw [cond_true, Bool.true_and]
          rcases List.eq_nil_or_concat l with rfl | ⟨pre, x, rfl⟩
          · rw [show IntKind.wrap .i64 (((([] : List (List UInt8)).length : Nat) : Int) - 1) = -1 from rfl, dF (by omega)]
            exact hpush
          · rw [List.concat_eq_append] at *
            have hlen2 : (pre ++ [x]).length = pre.length + 1 := by simp
            have hx := hi1 x (by simp)
            have hw : IntKind.wrap .i64 (((pre ++ [x]).length : Int) - 1) = ((pre.length : Nat) : Int) := by rw [wr (by omega)]; omega
            have hgl : glue (pre ++ [x]) (c :: r) = pre ++ [(x ++ [13, 10]) ++ (c :: r)] := by
              unfold glue
              rw [hlen2, Nat.add_sub_cancel, getD_last, set_last]
            have ih := raw_loop ret k0 hk s hl L hL f rest _ (i + 1) (glue (pre ++ [x]) (c :: r)) n (by omega) (by omega) hd3 hrest (by omega) (by omega) (by
              refine hs2.imp id fun hs2 => ⟨fun y hy => ?_, by rw [hgl]; simp at hi2 ⊢; omega⟩
              rw [hgl] at hy
              rcases List.mem_append.1 hy with hy | hy
              · have := hi1 y (List.mem_append_left _ hy); omega
              · simp only [List.mem_singleton] at hy; subst hy; simp at hs2 ⊢; omega)
            rw [if_pos (by simp)]
            rw [hgl] at ih ⊢
            have r0 : decide (([] : List UInt8).length + x.length ≤ room) = true := dT (by unfold room; simp; omega)
            have r1 : decide ((([] : List UInt8) ++ x).length + ([13, 10] : List UInt8).length ≤ room) = true := dT (by unfold room; simp; omega)
            have r2 : decide (((([] : List UInt8) ++ x) ++ ([13, 10] : List UInt8)).length + (c :: r).length ≤ room) = true := dT (by unfold room; simp at hx hs3 ⊢; omega)
            rw [hw]
            simp (disch := omega) only [dT, cond_true, Bool.and_true, tn, getD_last, set_last, both_self, r0, r1, r2, List.nil_append]
            simp only [List.nil_append] at r1 r2
            rw [r1, r2]
            exact ih
theorem lines_len (s : List UInt8) : (linesOf s).length ≤ s.length + 1 := by
  have : ∀ (n : Nat) (s : List UInt8), s.length ≤ n → (linesOf s).length ≤ s.length + 1 := by
    intro n
    induction n with
    | zero => intro s h0; cases s with
      | nil => simp [linesOf_nil]
      | cons a b => simp at h0
    | succ n ih =>
      intro s h0
      by_cases hs : s = []
      · subst hs; simp [linesOf_nil]
      · have h1 := (cut_short s hs).1
        have h2 := ih (bytes_Cut s [13, 10]).2.1 (by omega)
        rw [linesOf_cons s hs]
        simp only [List.length_cons]
        omega
  exact this s.length s (Nat.le_refl _)
theorem ref48_Raw_math : ∀ (s0 : List UInt8), (ref48_Raw_ok s0 = true) → ∃ n, ref48_Raw_sh n s0 = ref48_Raw_ret (ref48_Raw s0).1 (ref48_Raw s0).2 := fun s h => ⟨s.length + 1, by
  have hl := lenOk_le h
  have hL := lines_len s
  unfold ref48_Raw_sh
  rw [show ref26_Split_ok s = true from h, show ref26_Split s = linesOf s from rfl]
  exact raw_loop ref48_Raw_ret (ref48_Raw_k5_0 (s.length + 1)) (fun _ => rfl) s hl (linesOf s) (by omega) (s.length + 1) s 0 0 [] (s.length + 1) (by omega) (by omega) rfl (.inr ⟨rfl, Nat.zero_le _⟩) (by omega) (by omega) (.inr ⟨fun x hx => (by cases hx), by simp; omega⟩)⟩

theorem partsF_mem : ∀ (f : Nat) (l : List (List UInt8)) (t : List UInt8) (M : Nat), (t = [] → ∀ x ∈ l, x.length ≤ M + 2) → (t ≠ [] → ∀ x ∈ l, x.length + t.length ≤ M) → t.length ≤ M → (∀ x ∈ l, x.length ≤ M + 2) → ∀ x ∈ (partsF f l t).1, x.length ≤ M + 2
  | 0, l, t, M, h1, h2, h3, h4, x, hx => h4 x hx
  | f + 1, l, t, M, h1, h2, h3, h4, x, hx => by
    unfold partsF at hx
    by_cases h0 : t = []
    · rw [if_pos h0] at hx; exact h4 x hx
    · obtain ⟨hs1, hs2, hs3⟩ := cut_short t h0
      have hv := h2 h0
      rw [if_neg h0] at hx
      split at hx
      · exact h4 x hx
      · split at hx
        · rename_i hc
          simp only [Bool.and_eq_true] at hc
          have hne : l ≠ [] := by rintro rfl; simp at hc
          refine partsF_mem f _ _ M (fun _ y hy => ?_) (fun hr y hy => ?_) (by omega) (fun y hy => ?_) x hx
          all_goals
            rcases glue_mem hne hy with hy | ⟨z, hz, rfl⟩
            · have := hv y hy
              omega
            · have := hv z hz
              simp only [List.length_append, List.length_cons, List.length_nil]
              first
                | omega
                | (have := hs2.resolve_left hr; omega)
        · refine partsF_mem f _ _ M (fun _ y hy => ?_) (fun hr y hy => ?_) (by omega) (fun y hy => ?_) x hx
          all_goals
            rcases List.mem_append.1 hy with hy | hy
            · have := hv y hy
              omega
            · simp only [List.mem_singleton] at hy
              subst hy
              first
                | omega
                | (have := hs2.resolve_left hr; omega)
theorem parts_mem (s x : List UInt8) (h : x ∈ (field_parts s).1) : x.length ≤ s.length + 2 :=
  partsF_mem (s.length + 1) [] s s.length (fun _ _ h => by cases h) (fun _ _ h => by cases h) (Nat.le_refl _) (fun _ h => by cases h) x h
theorem glue_len (l : List (List UInt8)) (x : List UInt8) : (glue l x).length = l.length := by unfold glue; simp
theorem partsF_count : ∀ (f : Nat) (l : List (List UInt8)) (t : List UInt8), (partsF f l t).1.length ≤ l.length + t.length
  | 0, l, t => by unfold partsF; simp
  | f + 1, l, t => by
    unfold partsF
    by_cases h0 : t = []
    · rw [if_pos h0]; simp
    · have hs := (cut_short t h0).1
      rw [if_neg h0]
      split
      · show l.length ≤ _; omega
      · split
        · have := partsF_count f (glue l (bytes_Cut t [13, 10]).1) (bytes_Cut t [13, 10]).2.1
          rw [glue_len] at this
          omega
        · have := partsF_count f (l ++ [(bytes_Cut t [13, 10]).1]) (bytes_Cut t [13, 10]).2.1
          rw [List.length_append] at this
          simp only [List.length_cons, List.length_nil] at this
          omega
theorem parts_count (s : List UInt8) : (field_parts s).1.length ≤ s.length := by
  have := partsF_count (s.length + 1) [] s
  show (partsF (s.length + 1) [] s).1.length ≤ _
  simpa using this

theorem okFields_cons (x : List UInt8) (l : List (List UInt8)) : okFields (x :: l) = if (field_One x).2 = 0 then (field_One x).1 :: okFields l else okFields l := by
  unfold okFields
  rw [List.filter_cons]
  by_cases h : (field_One x).2 = 0
  · rw [if_pos h, if_pos (by simpa using h)]; rfl
  · rw [if_neg h, if_neg (by simpa using h)]
theorem badFields_cons (x : List UInt8) (l : List (List UInt8)) : badFields (x :: l) = if (field_One x).2 = 0 then badFields l else badFields l + 1 := by
  unfold badFields
  rw [List.countP_cons]
  by_cases h : (field_One x).2 = 0
  · rw [if_pos h, if_neg (by simp [h])]; omega
  · rw [if_neg h, if_pos (by simpa [bne] using h)]
theorem read_loop (k0 : List FieldT → Int → Option AV) (L : List (List UInt8)) (hL : L.length ≤ 1048576) (hm : ∀ x ∈ L, x.length ≤ 1048576) : ∀ (d i n m : Nat) (l : List FieldT), i + d = L.length → d < n → l.length + d ≤ 1048576 → m + d ≤ 1048576 →
    field_Read_l4 k0 n l (m : Nat) L (L.length : Nat) (i : Nat) = k0 (l ++ okFields (L.drop i)) ((m + badFields (L.drop i) : Nat) : Int)
  | d, i, 0, m, l, hi, hn, hl, hb => by omega
  | 0, i, n + 1, m, l, hi, hn, hl, hb => by
    show field_Read_l4_b k0 (field_Read_l4 k0 n) n _ _ _ _ _ = _
    unfold field_Read_l4_b
    rw [dF (by omega), cond_false, List.drop_eq_nil_of_le (by omega)]
    show k0 l _ = k0 (l ++ []) _
    rw [List.append_nil]
    rfl
  | d + 1, i, n + 1, m, l, hi, hn, hl, hb => by
    show field_Read_l4_b k0 (field_Read_l4 k0 n) n _ _ _ _ _ = _
    unfold field_Read_l4_b
    have hlt : i < L.length := by omega
    have hg : List.getD L i [] ∈ L := by rw [List.getD_eq_getElem?_getD, List.getElem?_eq_getElem hlt]; exact List.getElem_mem _
    rw [getD_drop (d := ([] : List UInt8)) hlt, okFields_cons, badFields_cons]
    have ho : field_One_ok (List.getD L i []) = true := lenOk_of (hm _ hg)
    have hr : decide (l.length + ([(field_One (List.getD L i [])).1] : List FieldT).length ≤ room) = true := dT (by unfold room; simp; omega)
    simp (disch := omega) only [dT, cond_true, Bool.and_true, tn, i64_succ, ho, hr]
    by_cases h : (field_One (List.getD L i [])).2 = 0
    · rw [bneF h, cond_false, if_pos h, if_pos h]
      have ih := read_loop k0 L hL hm d (i + 1) n m (l ++ [(field_One (List.getD L i [])).1]) (by omega) (by omega) (by simp; omega) (by omega)
      rw [List.append_assoc, List.singleton_append] at ih
      exact ih
    · rw [bneT h, cond_true, if_neg h, if_neg h]
      have ih := read_loop k0 L hL hm d (i + 1) n (m + 1) l (by omega) (by omega) (by omega) (by omega)
      rw [show m + 1 + badFields (L.drop (i + 1)) = m + (badFields (L.drop (i + 1)) + 1) by omega] at ih
      exact ih
theorem field_Read_math : ∀ (s0 : List UInt8), (field_Read_ok s0 = true) → ∃ n, field_Read_sh n s0 = field_Read_ret (field_Read s0).1 (field_Read s0).2 := fun s h => ⟨s.length + 1, by
  have hl : s.length ≤ 1048500 := by simpa [field_Read_ok] using h
  have hc := parts_count s
  unfold field_Read_sh
  rw [show field_Raw_ok s = true from lenOk_of (by omega)]
  have := read_loop (field_Read_k4_0 (s.length + 1)) (field_Raw s) (by show (field_parts s).1.length ≤ _; omega) (fun x hx => by have := parts_mem s x hx; omega) (field_Raw s).length 0 (s.length + 1) 0 [] (by omega) (by show (field_parts s).1.length < _; omega) (by show 0 + (field_parts s).1.length ≤ _; omega) (by show 0 + (field_parts s).1.length ≤ _; omega)
  refine Eq.trans this ?_
  rw [List.drop_zero, Nat.zero_add, List.nil_append]
  rfl⟩
theorem refRead_loop (k0 : List FieldT → Int → Option AV) (L : List (List UInt8)) (hL : L.length ≤ 1048576) (hm : ∀ x ∈ L, x.length ≤ 1048576) : ∀ (d i n m : Nat) (l : List FieldT), i + d = L.length → d < n → l.length + d ≤ 1048576 → m + d ≤ 1048576 →
    ref48_Read_l5 k0 n l (m : Nat) L (i : Nat) = k0 (l ++ okFields (L.drop i)) ((m + badFields (L.drop i) : Nat) : Int)
  | d, i, 0, m, l, hi, hn, hl, hb => by omega
  | 0, i, n + 1, m, l, hi, hn, hl, hb => by
    show ref48_Read_l5_b k0 (ref48_Read_l5 k0 n) n _ _ _ _ = _
    unfold ref48_Read_l5_b
    rw [dF (by omega), cond_false, List.drop_eq_nil_of_le (by omega)]
    show k0 l _ = k0 (l ++ []) _
    rw [List.append_nil]
    rfl
  | d + 1, i, n + 1, m, l, hi, hn, hl, hb => by
    show ref48_Read_l5_b k0 (ref48_Read_l5 k0 n) n _ _ _ _ = _
    unfold ref48_Read_l5_b
    have hlt : i < L.length := by omega
    have hg : List.getD L i [] ∈ L := by rw [List.getD_eq_getElem?_getD, List.getElem?_eq_getElem hlt]; exact List.getElem_mem _
    rw [getD_drop (d := ([] : List UInt8)) hlt, okFields_cons, badFields_cons]
    have ho : ref48_One_ok (List.getD L i []) = true := lenOk_of (hm _ hg)
    have e1 : ref48_One (List.getD L i []) = field_One (List.getD L i []) := rfl
    have hr : decide (l.length + ([(field_One (List.getD L i [])).1] : List FieldT).length ≤ room) = true := dT (by unfold room; simp; omega)
    simp (disch := omega) only [dT, cond_true, Bool.and_true, tn, i64_succ, ho, e1, hr]
    by_cases h : (field_One (List.getD L i [])).2 = 0
    · rw [beqI h, cond_true, if_pos h, if_pos h]
      have ih := refRead_loop k0 L hL hm d (i + 1) n m (l ++ [(field_One (List.getD L i [])).1]) (by omega) (by omega) (by simp; omega) (by omega)
      rw [List.append_assoc, List.singleton_append] at ih
      exact ih
    · rw [bneI h, cond_false, if_neg h, if_neg h]
      have ih := refRead_loop k0 L hL hm d (i + 1) n (m + 1) l (by omega) (by omega) (by omega) (by omega)
      rw [show m + 1 + badFields (L.drop (i + 1)) = m + (badFields (L.drop (i + 1)) + 1) by omega] at ih
      exact ih
theorem ref48_Read_math : ∀ (s0 : List UInt8), (ref48_Read_ok s0 = true) → ∃ n, ref48_Read_sh n s0 = ref48_Read_ret (ref48_Read s0).1 (ref48_Read s0).2 := fun s h => ⟨s.length + 1, by
  have hl : s.length ≤ 1048500 := by simpa [ref48_Read_ok] using h
  have hc := parts_count s
  unfold ref48_Read_sh
  rw [show ref48_Raw_ok s = true from lenOk_of (by omega)]
  have := refRead_loop (ref48_Read_k5_0 (s.length + 1)) (field_Raw s) (by show (field_parts s).1.length ≤ _; omega) (fun x hx => by have := parts_mem s x hx; omega) (field_Raw s).length 0 (s.length + 1) 0 [] (by omega) (by show (field_parts s).1.length < _; omega) (by show 0 + (field_parts s).1.length ≤ _; omega) (by show 0 + (field_parts s).1.length ≤ _; omega)
  refine Eq.trans this ?_
  rw [List.drop_zero, Nat.zero_add, List.nil_append]
  rfl⟩
end Go.Av
