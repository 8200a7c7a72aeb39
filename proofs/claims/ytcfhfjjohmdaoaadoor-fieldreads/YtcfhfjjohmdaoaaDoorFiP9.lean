/-
  Fields held against each other, searched, laid; what is laid is read; the laws.
-/
import Derived.Test.YtcfhfjjohmdaoaaDoorFiP8
namespace Go.Av
theorem getD_mem {α : Type} {l : List α} {i : Nat} (h : i < l.length) (d : α) : List.getD l i d ∈ l := by
  rw [List.getD_eq_getElem?_getD, List.getElem?_eq_getElem h]; exact List.getElem_mem _
theorem fOk_of {f : FieldT} (h : fOk f = true) : lenOk f.1 = true ∧ lenOk f.2.1 = true := by unfold fOk at h; simpa using h
theorem same_loop (ret : Bool → Option AV) (k0 : Option AV) (hk : k0 = ret true) (a b : List FieldT) (hl : a.length ≤ 1048576) (hab : a.length = b.length) (hm : ∀ f ∈ a, fOk f = true) : ∀ (d i n : Nat), i + d = a.length → d < n →
    law48_same_l4 ret k0 n a b (a.length : Nat) (i : Nat) = ret (decide (a.drop i = b.drop i))
  | d, i, 0, hi, hn => by omega
  | 0, i, n + 1, hi, hn => by
    show law48_same_l4_b ret k0 (law48_same_l4 ret k0 n) n _ _ _ _ = _
    unfold law48_same_l4_b
    rw [dF (by omega), cond_false, List.drop_eq_nil_of_le (by omega), List.drop_eq_nil_of_le (by omega), hk]
    rfl
  | d + 1, i, n + 1, hi, hn => by
    show law48_same_l4_b ret k0 (law48_same_l4 ret k0 n) n _ _ _ _ = _
    unfold law48_same_l4_b
    have hlt : i < a.length := by omega
    have hlt' : i < b.length := by omega
    have ih := same_loop ret k0 hk a b hl hab hm d (i + 1) n (by omega) (by omega)
    obtain ⟨o1, o2⟩ := fOk_of (hm _ (getD_mem hlt (([] : List UInt8), (([] : List UInt8), ()))))
    rw [getD_drop (d := (([] : List UInt8), (([] : List UInt8), ()))) hlt, getD_drop (d := (([] : List UInt8), (([] : List UInt8), ()))) hlt']
    have e1 : ref01_Like_ok (List.getD a i (([] : List UInt8), (([] : List UInt8), ()))).1 (List.getD b i (([] : List UInt8), (([] : List UInt8), ()))).1 = true := o1
    have e2 : ref01_Like_ok (List.getD a i (([] : List UInt8), (([] : List UInt8), ()))).2.1 (List.getD b i (([] : List UInt8), (([] : List UInt8), ()))).2.1 = true := o2
    simp (disch := omega) only [dT, cond_true, Bool.and_true, tn, i64_succ, e1, e2]
    generalize List.getD a i (([] : List UInt8), (([] : List UInt8), ())) = f
    generalize List.getD b i (([] : List UInt8), (([] : List UInt8), ())) = g
    obtain ⟨f1, f2, ⟨⟩⟩ := f
    obtain ⟨g1, g2, ⟨⟩⟩ := g
    unfold ref01_Like
    by_cases h1 : f1 = g1
    · by_cases h2 : f2 = g2
      · subst h1 h2
        simp only [decide_true, Bool.not_true, cond_false]
        rw [ih]
        simp
      · simp [h1, h2]
    · simp [h1]
theorem law48_same_math : ∀ (a0 : List FieldT) (b1 : List FieldT), (law48_same_ok a0 b1 = true) → ∃ n, law48_same_sh n a0 b1 = law48_same_ret (law48_same a0 b1) := fun a b h => ⟨a.length + 1, by
  unfold law48_same_ok at h
  simp only [Bool.and_eq_true, List.all_eq_true] at h
  have hl := lenOk_le h.1
  unfold law48_same_sh law48_same
  by_cases hab : a.length = b.length
  · rw [bneF (by omega), cond_false]
    exact same_loop law48_same_ret (law48_same_k4_0 (a.length + 1)) rfl a b hl hab h.2 a.length 0 (a.length + 1) (by omega) (by omega)
  · rw [bneT (by omega), cond_true, decide_eq_false (fun e => hab (by rw [e]))]⟩
theorem far_loop (ret : Bool → Option AV) (k0 : List FieldT → Option AV) (l L : List FieldT) (hl : L.length ≤ 1048576) : ∀ (d i n : Nat), i + d = L.length → d < n →
    law48_far_l2 ret k0 n l L (L.length : Nat) (i : Nat) = bif (L.drop i).any (fun f => decide (100 < f.1.length) || decide (200 < f.2.1.length)) then ret true else k0 l
  | d, i, 0, hi, hn => by omega
  | 0, i, n + 1, hi, hn => by
    show law48_far_l2_b ret k0 (law48_far_l2 ret k0 n) n _ _ _ _ = _
    unfold law48_far_l2_b
    rw [dF (by omega), cond_false, List.drop_eq_nil_of_le (by omega)]
    rfl
  | d + 1, i, n + 1, hi, hn => by
    show law48_far_l2_b ret k0 (law48_far_l2 ret k0 n) n _ _ _ _ = _
    unfold law48_far_l2_b
    have hlt : i < L.length := by omega
    have ih := far_loop ret k0 l L hl d (i + 1) n (by omega) (by omega)
    rw [getD_drop (d := (([] : List UInt8), (([] : List UInt8), ()))) hlt, List.any_cons]
    simp (disch := omega) only [dT, cond_true, Bool.and_true, tn, i64_succ]
    generalize List.getD L i (([] : List UInt8), (([] : List UInt8), ())) = f
    have e1 : decide ((100 : Int) < ((f.1.length : Nat) : Int)) = decide (100 < f.1.length) := by rw [Bool.eq_iff_iff]; simp only [decide_eq_true_eq]; omega
    have e2 : decide ((200 : Int) < ((f.2.1.length : Nat) : Int)) = decide (200 < f.2.1.length) := by rw [Bool.eq_iff_iff]; simp only [decide_eq_true_eq]; omega
    rw [e1, e2]
    cases decide (100 < f.1.length) <;> cases decide (200 < f.2.1.length) <;> first | rfl | exact ih
theorem law48_far_math : ∀ (l0 : List FieldT), (law48_far_ok l0 = true) → ∃ n, law48_far_sh n l0 = law48_far_ret (law48_far l0) := fun l _ => ⟨22, by
  unfold law48_far_sh law48_far
  have hm : (bif decide ((20 : Int) < ((l.length : Nat) : Int)) then (20 : Int) else ((l.length : Nat) : Int)) = ((min 20 l.length : Nat) : Int) := by
    by_cases h : 20 < l.length
    · rw [dT (by omega), cond_true]; omega
    · rw [dF (by omega), cond_false]; omega
  rw [hm]
  have e : List.drop (Int.toNat ((0 : Nat) : Int)) (List.take (Int.toNat ((min 20 l.length : Nat) : Int)) l) = l.take 20 := by
    rw [tn]
    show List.take (min 20 l.length) l = _
    rcases Nat.le_total 20 l.length with h | h
    · rw [Nat.min_eq_left h]
    · rw [Nat.min_eq_right h, List.take_length, List.take_of_length_le h]
  rw [e]
  have hl : (l.take 20).length ≤ 20 := by rw [List.length_take]; omega
  simp (disch := omega) only [dT, cond_true, Bool.and_true]
  refine (far_loop law48_far_ret (law48_far_k2_0 22) l (l.take 20) (by omega) (l.take 20).length 0 22 (by omega) (by omega)).trans ?_
  rw [List.drop_zero]
  unfold law48_far_k2_0
  have e2 : decide ((20 : Int) < ((l.length : Nat) : Int)) = decide (20 < l.length) := by rw [Bool.eq_iff_iff]; simp only [decide_eq_true_eq]; omega
  rw [e2]
  cases (l.take 20).any (fun f => decide (100 < f.1.length) || decide (200 < f.2.1.length)) <;> rfl⟩
theorem findF_cons (name : List UInt8) (f : FieldT) (l : List FieldT) : findF name (f :: l) = if octet_Same f.1 name = true then f :: findF name l else findF name l := by
  unfold findF; rw [List.filter_cons]
theorem find_loop (k0 : List UInt8 → Int → Option AV) (L : List FieldT) (name : List UInt8) (hn0 : lenOk name = true) (hl : L.length ≤ 1048576) (hm : ∀ f ∈ L, fOk f = true) : ∀ (d i n m : Nat) (v : List UInt8), i + d = L.length → d < n → m + d ≤ 1048576 →
    field_Find_l4 k0 n name v (m : Nat) L (L.length : Nat) (i : Nat) = k0 (if m = 0 then (match findF name (L.drop i) with | [] => v | f :: _ => f.2.1) else v) ((m + (findF name (L.drop i)).length : Nat) : Int)
  | d, i, 0, m, v, hi, hn, hb => by omega
  | 0, i, n + 1, m, v, hi, hn, hb => by
    show field_Find_l4_b k0 (field_Find_l4 k0 n) n _ _ _ _ _ _ = _
    unfold field_Find_l4_b
    rw [dF (by omega), cond_false, List.drop_eq_nil_of_le (by omega)]
    show k0 v _ = k0 (if m = 0 then v else v) _
    rw [ite_self]
    rfl
  | d + 1, i, n + 1, m, v, hi, hn, hb => by
    show field_Find_l4_b k0 (field_Find_l4 k0 n) n _ _ _ _ _ _ = _
    unfold field_Find_l4_b
    have hlt : i < L.length := by omega
    obtain ⟨o1, o2⟩ := fOk_of (hm _ (getD_mem hlt (([] : List UInt8), (([] : List UInt8), ()))))
    rw [getD_drop (d := (([] : List UInt8), (([] : List UInt8), ()))) hlt, findF_cons]
    have e1 : octet_Same_ok (List.getD L i (([] : List UInt8), (([] : List UInt8), ()))).1 name = true := by unfold octet_Same_ok; rw [o1, hn0]; rfl
    have e2 : bytes_Clone_ok (List.getD L i (([] : List UInt8), (([] : List UInt8), ()))).2.1 = true := o2
    simp (disch := omega) only [dT, cond_true, Bool.and_true, tn, i64_succ, e1, e2]
    generalize List.getD L i (([] : List UInt8), (([] : List UInt8), ())) = f
    cases octet_Same f.1 name with
    | false => exact find_loop k0 L name hn0 hl hm d (i + 1) n m v (by omega) (by omega) (by omega)
    | true =>
      rw [if_pos rfl]
      have h1 := find_loop k0 L name hn0 hl hm d (i + 1) n (m + 1) (bytes_Clone f.2.1) (by omega) (by omega) (by omega)
      have h2 := find_loop k0 L name hn0 hl hm d (i + 1) n (m + 1) v (by omega) (by omega) (by omega)
      rw [if_neg (by omega)] at h1 h2
      have e : m + 1 + (findF name (L.drop (i + 1))).length = m + (f :: findF name (L.drop (i + 1))).length := by simp only [List.length_cons]; omega
      rw [e] at h1 h2
      by_cases h0 : m = 0
      · rw [beqI (by omega), if_pos h0]; exact h1
      · rw [bneI (by omega), if_neg h0]; exact h2
theorem field_Find_math : ∀ (l0 : List FieldT) (name1 : List UInt8), (field_Find_ok l0 name1 = true) → ∃ n, field_Find_sh n l0 name1 = field_Find_ret (field_Find l0 name1).1 (field_Find l0 name1).2 := fun l name h => ⟨l.length + 1, by
  unfold field_Find_ok at h
  simp only [Bool.and_eq_true, List.all_eq_true] at h
  have hl := lenOk_le h.2.2
  unfold field_Find_sh
  refine (find_loop (field_Find_k4_0 (l.length + 1)) l name h.2.1 hl h.1 l.length 0 (l.length + 1) 0 [] (by omega) (by omega) (by omega)).trans ?_
  rw [List.drop_zero, if_pos rfl, Nat.zero_add]
  rfl⟩
theorem field_check_math : ∀ (f0 : FieldT), (field_check_ok f0 = true) → ∃ n, field_check_sh n f0 = field_check_ret (field_check f0) := fun f h => ⟨0, by
  obtain ⟨o1, o2⟩ := fOk_of h
  have h2 : bytes_ContainsAny_ok f.2.1 [13, 10] = true := by
    unfold bytes_ContainsAny_ok bytes_IndexAny_ok
    rw [o2]; rfl
  unfold field_check_sh field_check
  rw [show field_isName_ok f.1 = true from o1, show field_isName f.1 = isNameB f.1 from rfl, h2, any_break, show octet_Trim_ok f.2.1 = true from o2, show octet_Trim f.2.1 = trimBy blank f.2.1 from rfl]
  by_cases h3 : (trimBy blank f.2.1).length = f.2.1.length
  · rw [decide_eq_true h3, bneF (by omega)]
    cases isNameB f.1 <;> cases f.2.1.any isBreak <;> rfl
  · rw [decide_eq_false h3, bneT (by omega)]
    cases isNameB f.1 <;> cases f.2.1.any isBreak <;> rfl⟩
theorem lay_loop (ret : List UInt8 → Int → Option AV) (k0 : List (List UInt8) → Option AV) (L : List FieldT) (hl : L.length ≤ 1048576) (hm : ∀ f ∈ L, fOk f = true) : ∀ (d i n : Nat) (out : List (List UInt8)), i + d = L.length → d < n → out.length + d ≤ 1048576 →
    field_Lay_l3 ret k0 n out L (L.length : Nat) (i : Nat) = bif firstBad (L.drop i) != 0 then ret [] (firstBad (L.drop i)) else k0 (out ++ (L.drop i).map layLine)
  | d, i, 0, out, hi, hn, hb => by omega
  | 0, i, n + 1, out, hi, hn, hb => by
    show field_Lay_l3_b ret k0 (field_Lay_l3 ret k0 n) n _ _ _ _ = _
    unfold field_Lay_l3_b
    rw [dF (by omega), cond_false, List.drop_eq_nil_of_le (by omega)]
    show k0 out = k0 (out ++ [])
    rw [List.append_nil]
  | d + 1, i, n + 1, out, hi, hn, hb => by
    show field_Lay_l3_b ret k0 (field_Lay_l3 ret k0 n) n _ _ _ _ = _
    unfold field_Lay_l3_b
    have hlt : i < L.length := by omega
    have hf := hm _ (getD_mem hlt (([] : List UInt8), (([] : List UInt8), ())))
    obtain ⟨o1, o2⟩ := fOk_of hf
    have l1 := lenOk_le o1
    have l2 := lenOk_le o2
    rw [getD_drop (d := (([] : List UInt8), (([] : List UInt8), ()))) hlt]
    generalize hg : List.getD L i (([] : List UInt8), (([] : List UInt8), ())) = f at *
    have e0 : firstBad (f :: L.drop (i + 1)) = bif field_check f != 0 then field_check f else firstBad (L.drop (i + 1)) := rfl
    rw [e0]
    have e2 : bytes_Clone_ok f.1 = true := o1
    have e3 : bytes_Clone f.1 = f.1 := rfl
    have r1 : decide (f.1.length + ([58, 32] : List UInt8).length ≤ room) = true := dT (by unfold room; simp; omega)
    have r2 : decide ((f.1 ++ ([58, 32] : List UInt8)).length + f.2.1.length ≤ room) = true := dT (by unfold room; simp; omega)
    have r3 : decide (out.length + ([f.1 ++ ([58, 32] : List UInt8) ++ f.2.1] : List (List UInt8)).length ≤ room) = true := dT (by unfold room; simp; omega)
    have ih := lay_loop ret k0 L hl hm d (i + 1) n (out ++ [f.1 ++ ([58, 32] : List UInt8) ++ f.2.1]) (by omega) (by omega) (by simp; omega)
    simp (disch := omega) only [dT, cond_true, Bool.and_true, tn, i64_succ, hg, show field_check_ok f = true from hf, e2, e3, r1, r2, r3, both_self]
    by_cases h : field_check f = 0
    · rw [bneF h, cond_false, cond_false, ih, List.append_assoc]
      rfl
    · rw [bneT h, cond_true, cond_true, bneT h, cond_true]
theorem field_Lay_math : ∀ (l0 : List FieldT), (field_Lay_ok l0 = true) → ∃ n, field_Lay_sh n l0 = field_Lay_ret (field_Lay l0).1 (field_Lay l0).2 := fun l h => ⟨l.length + 1, by
  unfold field_Lay_ok at h
  simp only [Bool.and_eq_true, List.all_eq_true, decide_eq_true_eq] at h
  have hj := joinCL_ge (l.map layLine)
  rw [List.length_map] at hj
  unfold field_Lay_sh
  refine (lay_loop field_Lay_ret (field_Lay_k3_0 (l.length + 1)) l (by omega) h.1 l.length 0 (l.length + 1) [] (by omega) (by omega) (by simp; omega)).trans ?_
  rw [List.drop_zero, List.nil_append]
  unfold field_Lay
  by_cases h0 : firstBad l = 0
  · rw [bneF h0, cond_false, cond_false]
    unfold field_Lay_k3_0
    have r1 : lines_Join_ok (l.map layLine) = true := by unfold lines_Join_ok; rw [decide_eq_true_eq]; omega
    have r2 : decide ((lines_Join (l.map layLine)).length + ([13, 10] : List UInt8).length ≤ room) = true := dT (by unfold room lines_Join; simp; omega)
    rw [r1, r2]
    rfl
  · rw [bneT h0, cond_true, cond_true]⟩

/-! What is laid is read. -/
theorem no13_index : ∀ (x r : List UInt8), (∀ c ∈ x, c ≠ 13) → Lib.index (x ++ 13 :: 10 :: r) [13, 10] = (x.length : Int)
  | [], r, _ => by rw [List.nil_append, idx_cons, if_pos ⟨rfl, rfl⟩]; rfl
  | c :: x, r, h => by
    have ih := no13_index x r (fun c hc => h c (List.mem_cons_of_mem _ hc))
    rw [List.cons_append, idx_cons, if_neg (fun hh => h c (List.mem_cons_self ..) hh.1), ih, if_neg (by omega), List.length_cons]
    omega
theorem cut_line (x r : List UInt8) (h : ∀ c ∈ x, c ≠ 13) : bytes_Cut (x ++ 13 :: 10 :: r) [13, 10] = (x, r, true) := by
  unfold bytes_Cut
  rw [no13_index x r h, dT (by omega), cond_true, tn]
  simp
theorem no58_index : ∀ (x r : List UInt8), x.contains 58 = false → Lib.indexByte (x ++ 58 :: r) 58 = (x.length : Int)
  | [], r, _ => by rw [List.nil_append, ib_cons, if_pos (by decide)]; rfl
  | c :: x, r, h => by
    rw [List.contains_cons, Bool.or_eq_false_iff] at h
    have ih := no58_index x r h.2
    have hc : (c == 58) = false := by rw [Bool.beq_comm]; exact h.1
    rw [List.cons_append, ib_cons, hc, ih]
    have : ((x.length : Int) == -1) = false := by simp
    rw [this, List.length_cons]
    simp
theorem cut_colon (x r : List UInt8) (h : x.contains 58 = false) : bytes_Cut (x ++ 58 :: r) [58] = (x, r, true) := by
  unfold bytes_Cut
  rw [Lib.index_one, no58_index x r h, dT (by omega), cond_true, tn]
  simp
theorem unf_no13 : ∀ s : List UInt8, (∀ c ∈ s, c ≠ 13) → unf s = s
  | [], _ => rfl
  | x :: r, h => by
    have ih := unf_no13 r (fun c hc => h c (List.mem_cons_of_mem _ hc))
    have hx := h x (List.mem_cons_self ..)
    have : isFold (x :: r) = false := by
      match r with
      | [] => rfl
      | [_] => rfl
      | b :: c :: r =>
        show ((x == 13) && ((b == 10) && blank c)) = false
        rw [beq_eq_false_iff_ne.2 hx]
        rfl
    rw [unf_cons, this, cond_false, ih]
theorem dropWhile_id (p : UInt8 → Bool) : ∀ s : List UInt8, (s.dropWhile p).length = s.length → s.dropWhile p = s
  | [], _ => rfl
  | c :: s, h => by
    rw [List.dropWhile_cons] at h ⊢
    cases hc : p c with
    | true =>
      rw [hc, if_pos rfl] at h
      have := dropWhile_le p s
      simp only [List.length_cons] at h
      omega
    | false => simp
theorem trimBy_id (p : UInt8 → Bool) (s : List UInt8) (h : (trimBy p s).length = s.length) : trimBy p s = s := by
  have h1 := dropWhile_le p (dropR p s)
  have h2 := dropR_le p s
  unfold trimBy at h ⊢
  have h3 : dropR p s = s := by
    have h4 := dropR_pre p s
    rw [show (dropR p s).length = s.length by omega, List.take_length] at h4
    exact h4.symm
  rw [h3] at h ⊢
  exact dropWhile_id p s h
theorem dropWhile_none (p : UInt8 → Bool) : ∀ s : List UInt8, (∀ c ∈ s, p c = false) → s.dropWhile p = s
  | [], _ => rfl
  | c :: s, h => by rw [List.dropWhile_cons, h c (List.mem_cons_self ..)]; rfl
theorem trimBy_none (p : UInt8 → Bool) (s : List UInt8) (h : ∀ c ∈ s, p c = false) : trimBy p s = s := by
  unfold trimBy dropR
  rw [dropWhile_none p s.reverse (fun c hc => h c (List.mem_reverse.1 hc)), List.reverse_reverse]
  exact dropWhile_none p s h
theorem print_facts : ∀ i : Fin 256, (!(octet_Is (UInt8.ofNat i.val) 4) || (!(blank (UInt8.ofNat i.val)) && ((UInt8.ofNat i.val != 13) && (UInt8.ofNat i.val != 10)))) = true := by decide +kernel
theorem print_fact (c : UInt8) (h : octet_Is c 4 = true) : blank c = false ∧ c ≠ 13 ∧ c ≠ 10 := by
  have := fin_of (P := fun c => (!(octet_Is c 4) || (!(blank c) && ((c != 13) && (c != 10)))) = true) print_facts c
  rw [h] at this
  simp only [Bool.not_true, Bool.false_or, Bool.and_eq_true, Bool.not_eq_true', bne_iff_ne, ne_eq] at this
  exact this
theorem check_facts {f : FieldT} (h : field_check f = 0) : f.1 ≠ [] ∧ (∀ c ∈ f.1, octet_Is c 4 = true) ∧ f.1.contains 58 = false ∧ isNameB f.1 = true ∧ (∀ c ∈ f.2.1, c ≠ 13 ∧ c ≠ 10) ∧ trimBy blank f.2.1 = f.2.1 := by
  unfold field_check at h
  cases h1 : isNameB f.1 with
  | false => rw [h1] at h; simp at h
  | true =>
    rw [h1] at h
    simp only [Bool.not_true, cond_false] at h
    cases h2 : f.2.1.any isBreak with
    | true => rw [h2] at h; simp at h
    | false =>
      rw [h2] at h
      simp only [cond_false] at h
      by_cases h3 : (trimBy blank f.2.1).length = f.2.1.length
      · have h1' := h1
        unfold isNameB at h1'
        simp only [Bool.and_eq_true, Bool.not_eq_true', List.all_eq_true] at h1'
        refine ⟨by rintro e; rw [e] at h1'; simp at h1', h1'.2.1, h1'.2.2, rfl, fun c hc => ?_, trimBy_id _ _ h3⟩
        have := List.any_eq_false.1 h2 c hc
        unfold isBreak at this
        simp only [Bool.or_eq_true, beq_iff_eq, not_or] at this
        exact this
      · rw [decide_eq_false h3] at h; simp at h
theorem one_lay (f : FieldT) (h : field_check f = 0) : field_One (layLine f) = (f, 0) := by
  obtain ⟨h1, h2, h3, h4, h5, h6⟩ := check_facts h
  obtain ⟨name, value, ⟨⟩⟩ := f
  simp only at h1 h2 h3 h4 h5 h6
  have e : layLine (name, value, ()) = name ++ 58 :: (32 :: value) := by unfold layLine; simp
  have hb : field_blank (name ++ 58 :: (32 :: value)) = false := by
    cases name with
    | nil => exact absurd rfl h1
    | cons c r => exact (print_fact c (h2 c (List.mem_cons_self ..))).1
  have hu : unf (32 :: value) = 32 :: value := unf_no13 _ (fun c hc => by
    rcases List.mem_cons.1 hc with rfl | hc
    · decide
    · exact (h5 c hc).1)
  have ht : trimBy blank (32 :: value) = value := by
    rw [← trim_comm, List.dropWhile_cons, if_pos (by decide), trim_comm]
    exact h6
  have hn : trimBy blank name = name := trimBy_none _ _ (fun c hc => (print_fact c (h2 c hc)).1)
  unfold field_One
  rw [e, cut_colon _ _ h3]
  simp only [hb, hn, h4, hu, ht]
  rfl
theorem parts_lay (behind : List UInt8) : ∀ (l : List FieldT) (out : List (List UInt8)) (f : Nat), (∀ x ∈ l, field_check x = 0) → (joinCL (l.map layLine) ++ 13 :: 10 :: behind).length < f →
    partsF f out (joinCL (l.map layLine) ++ 13 :: 10 :: behind) = (out ++ l.map layLine, behind)
  | l, out, 0, h, hf => by omega
  | [], out, f + 1, h, hf => by
    unfold partsF
    have : bytes_Cut (joinCL ([].map layLine) ++ 13 :: 10 :: behind) [13, 10] = ([], behind, true) := cut_line [] behind (fun c hc => by cases hc)
    rw [if_neg (by simp [joinCL]), this]
    simp
  | x :: l, out, f + 1, h, hf => by
    obtain ⟨h1, h2, h3, h4, h5, h6⟩ := check_facts (h x (List.mem_cons_self ..))
    have e : joinCL ((x :: l).map layLine) ++ 13 :: 10 :: behind = layLine x ++ 13 :: 10 :: (joinCL (l.map layLine) ++ 13 :: 10 :: behind) := by
      unfold joinCL
      rw [List.map_cons, List.flatMap_cons]
      simp
    rw [e] at hf ⊢
    have hne : layLine x ≠ [] := by unfold layLine; simp
    have hno : ∀ c ∈ layLine x, c ≠ 13 := fun c hc => by
      unfold layLine at hc
      rcases List.mem_append.1 hc with hc | hc
      · rcases List.mem_append.1 hc with hc | hc
        · exact (print_fact c (h2 c hc)).2.1
        · intro e; subst e; revert hc; decide
      · exact (h5 c hc).1
    have hb : field_blank (layLine x) = false := by
      unfold layLine
      cases hx : x.1 with
      | nil => exact absurd hx h1
      | cons c r => exact (print_fact c (h2 c (by rw [hx]; exact List.mem_cons_self ..))).1
    unfold partsF
    have hc := cut_line (layLine x) (joinCL (l.map layLine) ++ 13 :: 10 :: behind) hno
    rw [if_neg (by simp [hne]), hc]
    simp only [hb, hne, if_false, Bool.false_and, Bool.false_eq_true]
    rw [parts_lay behind l (out ++ [layLine x]) f (fun y hy => h y (List.mem_cons_of_mem _ hy)) (by simp only [List.length_append, List.length_cons] at hf ⊢; omega)]
    simp
theorem firstBad_zero : ∀ l : List FieldT, firstBad l = 0 → ∀ x ∈ l, field_check x = 0
  | [], _, x, hx => by cases hx
  | f :: l, h, x, hx => by
    have e0 : firstBad (f :: l) = bif field_check f != 0 then field_check f else firstBad l := rfl
    rw [e0] at h
    by_cases hf : field_check f = 0
    · rw [bneF hf, cond_false] at h
      rcases List.mem_cons.1 hx with rfl | hx
      · exact hf
      · exact firstBad_zero l h x hx
    · rw [bneT hf, cond_true] at h
      exact absurd h hf
theorem ok_lay : ∀ l : List FieldT, (∀ x ∈ l, field_check x = 0) → okFields (l.map layLine) = l ∧ badFields (l.map layLine) = 0
  | [], _ => ⟨rfl, rfl⟩
  | f :: l, h => by
    obtain ⟨h1, h2⟩ := ok_lay l (fun x hx => h x (List.mem_cons_of_mem _ hx))
    have h3 := one_lay f (h f (List.mem_cons_self ..))
    rw [List.map_cons, okFields_cons, badFields_cons, h3]
    simp [h1, h2]
end Go.Av
