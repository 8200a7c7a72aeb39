/-
  What is hidden and shown; pieces joined, counted, held against each other.
-/
import Derived.Test.YtnfehbljinflbaaDoorEtP7
namespace Go.Av
abbrev d0 : PieceT := ((0 : Int), (([] : List UInt8), ()))
theorem set_mid {α : Type} (pre r : List α) (x y : α) : List.set (pre ++ x :: r) pre.length y = (pre ++ [y]) ++ r := by
  rw [List.set_append_right _ _ (Nat.le_refl _), Nat.sub_self, List.append_assoc]
  rfl
theorem Hidden_loop (k0 : List Bool → Option AV) (l : List PieceT) (hl : l.length ≤ 1048576) : ∀ (d i n : Nat) (pre : List Bool), i + d = l.length → pre.length = i → d < n →
    ewtok_Hidden_l3 k0 n l (pre ++ List.replicate d false) l (l.length : Nat) (i : Nat) = k0 (pre ++ hidF l d i)
  | d, i, 0, pre, hi, hp, hn => by omega
  | 0, i, n + 1, pre, hi, hp, hn => by
    show ewtok_Hidden_l3_b k0 (ewtok_Hidden_l3 k0 n) n _ _ _ _ _ = _
    unfold ewtok_Hidden_l3_b
    rw [dF (by omega), cond_false]
    rfl
  | d + 1, i, n + 1, pre, hi, hp, hn => by
    show ewtok_Hidden_l3_b k0 (ewtok_Hidden_l3 k0 n) n _ _ _ _ _ = _
    unfold ewtok_Hidden_l3_b
    have ih := Hidden_loop k0 l hl d (i + 1) n (pre ++ [hiddenB l i]) (by omega) (by simp; omega) (by omega)
    have e : (pre ++ [hiddenB l i]) ++ hidF l d (i + 1) = pre ++ hidF l (d + 1) i := by rw [List.append_assoc]; rfl
    rw [e] at ih
    have hlen : (pre ++ List.replicate (d + 1) false).length = i + (d + 1) := by simp [hp]
    have hset : ∀ y, List.set (pre ++ List.replicate (d + 1) false) i y = (pre ++ [y]) ++ List.replicate d false := fun y => by
      rw [← hp]
      exact set_mid pre (List.replicate d false) false y
    have hsame : pre ++ List.replicate (d + 1) false = (pre ++ [false]) ++ List.replicate d false := by rw [List.append_assoc]; rfl
    have hfal : hiddenB l i = false → ewtok_Hidden_l3 k0 n l (pre ++ List.replicate (d + 1) false) l (l.length : Nat) ((i + 1 : Nat) : Int) = k0 (pre ++ hidF l (d + 1) i) := fun hf => by
      rw [hf] at ih
      rw [hsame]
      exact ih
    have hb : hiddenB l i = ((List.getD l i d0).1 == 1 && (decide (0 < i) && (decide (i + 1 < l.length) && ((List.getD l (i - 1) d0).1 == 3 && (List.getD l (i + 1) d0).1 == 3)))) := rfl
    rw [hlen, i64_succ (by omega)]
    simp (disch := omega) only [dT, cond_true, Bool.and_true, tn]
    by_cases h0 : 0 < i
    · have hw : IntKind.wrap .i64 ((i : Int) - 1) = ((i - 1 : Nat) : Int) := by rw [wr (by omega)]; omega
      rw [dT (show (0 : Int) < (i : Int) by omega), cond_true]
      by_cases h1 : i + 1 < l.length
      · rw [dT (show ((i + 1 : Nat) : Int) < ((l.length : Nat) : Int) by omega), cond_true, hw]
        rw [decide_eq_true h0, decide_eq_true h1, Bool.true_and, Bool.true_and] at hb
        simp (disch := omega) only [dT, cond_true, Bool.and_true, tn]
        cases ha : ((List.getD l i d0).1 == 1) with
        | false =>
          rw [ha, Bool.false_and] at hb
          rw [cond_false]
          exact hfal hb
        | true =>
          rw [ha, Bool.true_and] at hb
          rw [cond_true]
          cases hc : ((List.getD l (i - 1) d0).1 == 3) with
          | false =>
            rw [hc, Bool.false_and] at hb
            rw [hb] at ih
            rw [cond_false, hset]
            exact ih
          | true =>
            rw [hc, Bool.true_and] at hb
            rw [cond_true, hset, ← hb]
            exact ih
      · rw [dF (show ¬ ((i + 1 : Nat) : Int) < ((l.length : Nat) : Int) by omega), cond_false]
        exact hfal (by rw [hb, decide_eq_false h1]; simp)
    · rw [dF (show ¬ (0 : Int) < (i : Int) by omega), cond_false]
      exact hfal (by rw [hb, decide_eq_false h0]; simp)
theorem ewtok_Hidden_math : ∀ (l0 : List PieceT), (ewtok_Hidden_ok l0 = true) → ∃ n, ewtok_Hidden_sh n l0 = ewtok_Hidden_ret (ewtok_Hidden l0) := fun l h => ⟨l.length + 1, by
  have hl := lenOk_le h
  unfold ewtok_Hidden_sh
  have hr : ((l.length : Nat) : Int) ≤ (room : Int) := by unfold room; omega
  simp (disch := omega) only [dT, cond_true, Bool.and_true, tn]
  exact Hidden_loop (ewtok_Hidden_k3_0 (l.length + 1)) l hl l.length 0 (l.length + 1) [] (by omega) rfl (by omega)⟩
theorem ref32_Hidden_math : ∀ (l0 : List PieceT) (i1 : Int), (ref32_Hidden_ok l0 i1 = true) → ∃ n, ref32_Hidden_sh n l0 i1 = ref32_Hidden_ret (ref32_Hidden l0 i1) := fun l j h => ⟨0, by
  unfold ref32_Hidden_ok at h
  simp only [Bool.and_eq_true, decide_eq_true_eq] at h
  obtain ⟨h1, h2, h3⟩ := h
  have hl := lenOk_le h1
  obtain ⟨i, rfl⟩ : ∃ i : Nat, j = (i : Int) := ⟨j.toNat, by omega⟩
  unfold ref32_Hidden_sh ref32_Hidden
  have hb : hiddenB l i = ((List.getD l i d0).1 == 1 && (decide (0 < i) && (decide (i + 1 < l.length) && ((List.getD l (i - 1) d0).1 == 3 && (List.getD l (i + 1) d0).1 == 3)))) := rfl
  rw [tn, hb, i64_succ (by omega), tn]
  simp (disch := omega) only [dT, cond_true, Bool.and_true]
  by_cases h0 : 0 < i
  · have hw : IntKind.wrap .i64 ((i : Int) - 1) = ((i - 1 : Nat) : Int) := by rw [wr (by omega)]; omega
    rw [dT (show (0 : Int) < (i : Int) by omega), cond_true, hw, decide_eq_true h0, tn]
    by_cases h4 : i + 1 < l.length
    · rw [dT (show ((i + 1 : Nat) : Int) < ((l.length : Nat) : Int) by omega), decide_eq_true h4]
      simp (disch := omega) only [dT, cond_true, Bool.and_true, Bool.true_and]
      cases ((List.getD l i d0).1 == 1) <;> cases ((List.getD l (i - 1) d0).1 == 3) <;> rfl
    · rw [dF (show ¬ ((i + 1 : Nat) : Int) < ((l.length : Nat) : Int) by omega), decide_eq_false h4]
      cases ((List.getD l i d0).1 == 1) <;> rfl
  · rw [dF (show ¬ (0 : Int) < (i : Int) by omega), decide_eq_false h0]
    cases ((List.getD l i d0).1 == 1) <;> rfl⟩
theorem hidF_len (l : List PieceT) : ∀ d i : Nat, (hidF l d i).length = d
  | 0, _ => rfl
  | d + 1, i => by
    show (hiddenB l i :: hidF l d (i + 1)).length = _
    rw [List.length_cons, hidF_len l d (i + 1)]
theorem hidF_getD (l : List PieceT) : ∀ d i k : Nat, k < d → List.getD (hidF l d i) k false = hiddenB l (i + k)
  | 0, _, _, h => by omega
  | d + 1, i, 0, _ => rfl
  | d + 1, i, k + 1, h => by
    show List.getD (hidF l d (i + 1)) k false = _
    rw [hidF_getD l d (i + 1) k (by omega)]
    congr 1
    omega
theorem showF_len (l : List PieceT) : ∀ d i : Nat, (showF l d i).length ≤ d
  | 0, _ => Nat.le_refl _
  | d + 1, i => by
    have := showF_len l d (i + 1)
    show (bif hiddenB l i then showF l d (i + 1) else l.getD i d0 :: showF l d (i + 1)).length ≤ _
    cases hiddenB l i
    · simp only [cond_false, List.length_cons]; omega
    · simp only [cond_true]; omega
theorem Shown_loop (k0 : List PieceT → Option AV) (l : List PieceT) (hl : l.length ≤ 1048576) : ∀ (d i n : Nat) (out : List PieceT), i + d = l.length → d < n → out.length + d ≤ 1048576 →
    ewtok_Shown_l4 k0 n out l (hidF l l.length 0) (l.length : Nat) (i : Nat) = k0 (out ++ showF l d i)
  | d, i, 0, out, hi, hn, hb => by omega
  | 0, i, n + 1, out, hi, hn, hb => by
    show ewtok_Shown_l4_b k0 (ewtok_Shown_l4 k0 n) n _ _ _ _ _ = _
    unfold ewtok_Shown_l4_b
    rw [dF (by omega), cond_false]
    show k0 out = k0 (out ++ [])
    rw [List.append_nil]
  | d + 1, i, n + 1, out, hi, hn, hb => by
    show ewtok_Shown_l4_b k0 (ewtok_Shown_l4 k0 n) n _ _ _ _ _ = _
    unfold ewtok_Shown_l4_b
    have h1 := Shown_loop k0 l hl d (i + 1) n out (by omega) (by omega) (by omega)
    have h2 := Shown_loop k0 l hl d (i + 1) n (out ++ [l.getD i d0]) (by omega) (by omega) (by simp; omega)
    have hr : decide (out.length + ([l.getD i d0] : List PieceT).length ≤ room) = true := dT (by unfold room; simp; omega)
    rw [hidF_len, tn, hidF_getD l l.length 0 i (by omega), Nat.zero_add, i64_succ (by omega)]
    have e : showF l (d + 1) i = bif hiddenB l i then showF l d (i + 1) else l.getD i d0 :: showF l d (i + 1) := rfl
    rw [e]
    simp (disch := omega) only [dT, cond_true, Bool.and_true]
    cases hiddenB l i with
    | true => exact h1
    | false =>
      rw [Bool.not_false, cond_true, hr, cond_true, cond_false, h2, List.append_assoc]
      rfl
theorem RShown_loop (k0 : List PieceT → Option AV) (l : List PieceT) (hl : l.length ≤ 1048576) : ∀ (d i n : Nat) (out : List PieceT), i + d = l.length → d < n → out.length + d ≤ 1048576 →
    ref32_Shown_l4 k0 n l out (i : Nat) = k0 (out ++ showF l d i)
  | d, i, 0, out, hi, hn, hb => by omega
  | 0, i, n + 1, out, hi, hn, hb => by
    show ref32_Shown_l4_b k0 (ref32_Shown_l4 k0 n) n _ _ _ = _
    unfold ref32_Shown_l4_b
    rw [dF (by omega), cond_false]
    show k0 out = k0 (out ++ [])
    rw [List.append_nil]
  | d + 1, i, n + 1, out, hi, hn, hb => by
    show ref32_Shown_l4_b k0 (ref32_Shown_l4 k0 n) n _ _ _ = _
    unfold ref32_Shown_l4_b
    have h1 := RShown_loop k0 l hl d (i + 1) n out (by omega) (by omega) (by omega)
    have h2 := RShown_loop k0 l hl d (i + 1) n (out ++ [l.getD i d0]) (by omega) (by omega) (by simp; omega)
    have hr : decide (out.length + ([l.getD i d0] : List PieceT).length ≤ room) = true := dT (by unfold room; simp; omega)
    have hok : ref32_Hidden_ok l (i : Int) = true := by
      unfold ref32_Hidden_ok
      rw [lenOk_of hl, dT (by omega), dT (by omega)]
      rfl
    rw [hok, show ref32_Hidden l (i : Int) = hiddenB l i by unfold ref32_Hidden; rw [tn], tn, i64_succ (by omega)]
    have e : showF l (d + 1) i = bif hiddenB l i then showF l d (i + 1) else l.getD i d0 :: showF l d (i + 1) := rfl
    rw [e]
    simp (disch := omega) only [dT, cond_true, Bool.and_true]
    cases hiddenB l i with
    | true => exact h1
    | false =>
      rw [Bool.not_false, cond_true, hr, cond_true, cond_false, h2, List.append_assoc]
      rfl
theorem piecesF_len : ∀ (f : Nat) (s : List UInt8), (piecesF f s).length ≤ f
  | 0, _ => Nat.le_refl _
  | f + 1, s => by
    by_cases h : s = []
    · subst h
      exact Nat.zero_le _
    · rw [piecesF_cons f h, List.length_cons]
      have := piecesF_len f (s.drop (alike s))
      omega
theorem pieces_len (s : List UInt8) : (pieces s).length ≤ s.length := piecesF_len _ _
theorem ewtok_Shown_math : ∀ (s0 : List UInt8), (ewtok_Shown_ok s0 = true) → ∃ n, ewtok_Shown_sh n s0 = ewtok_Shown_ret (ewtok_Shown s0) := fun s h => ⟨s.length + 1, by
  have hl := lenOk_le h
  have hp := pieces_len s
  unfold ewtok_Shown_sh
  have ok2 : ewtok_Hidden_ok (pieces s) = true := lenOk_of (by omega)
  rw [show ewtok_Pieces_ok s = true from h, show ewtok_Pieces s = pieces s from rfl, ok2, show ewtok_Hidden (pieces s) = hidF (pieces s) (pieces s).length 0 from rfl, hidF_len]
  exact Shown_loop (ewtok_Shown_k4_0 (s.length + 1)) (pieces s) (by omega) (pieces s).length 0 (s.length + 1) [] (by omega) (by omega) (by simp; omega)⟩
theorem ref32_Shown_math : ∀ (s0 : List UInt8), (ref32_Shown_ok s0 = true) → ∃ n, ref32_Shown_sh n s0 = ref32_Shown_ret (ref32_Shown s0) := fun s h => ⟨s.length + 1, by
  have hl := lenOk_le h
  have hp := pieces_len s
  unfold ref32_Shown_sh
  rw [show ref32_Pieces_ok s = true from h, show ref32_Pieces s = pieces s from rfl]
  exact RShown_loop (ref32_Shown_k4_0 (s.length + 1)) (pieces s) (by omega) (pieces s).length 0 (s.length + 1) [] (by omega) (by omega) (by simp; omega)⟩
theorem joinP_cons (p : PieceT) (l : List PieceT) : joinP (p :: l) = p.2.1 ++ joinP l := rfl
theorem Join_loop (k0 : List UInt8 → Option AV) (L : List PieceT) (hl : L.length ≤ 1048576) : ∀ (d i n : Nat) (out : List UInt8), i + d = L.length → d < n → out.length + (joinP (L.drop i)).length ≤ 1048576 →
    ewtok_Join_l3 k0 n out L (L.length : Nat) (i : Nat) = k0 (out ++ joinP (L.drop i))
  | d, i, 0, out, hi, hn, hb => by omega
  | 0, i, n + 1, out, hi, hn, hb => by
    show ewtok_Join_l3_b k0 (ewtok_Join_l3 k0 n) n _ _ _ _ = _
    unfold ewtok_Join_l3_b
    rw [dF (by omega), cond_false, List.drop_eq_nil_of_le (by omega)]
    show k0 out = k0 (out ++ [])
    rw [List.append_nil]
  | d + 1, i, n + 1, out, hi, hn, hb => by
    show ewtok_Join_l3_b k0 (ewtok_Join_l3 k0 n) n _ _ _ _ = _
    unfold ewtok_Join_l3_b
    have hlt : i < L.length := by omega
    rw [getD_drop (d := d0) hlt, joinP_cons] at hb ⊢
    rw [List.length_append] at hb
    have ih := Join_loop k0 L hl d (i + 1) n (out ++ (List.getD L i d0).2.1) (by omega) (by omega) (by rw [List.length_append]; omega)
    have hr : decide (out.length + (List.getD L i d0).2.1.length ≤ room) = true := dT (by unfold room; omega)
    simp (disch := omega) only [dT, cond_true, Bool.and_true, tn, i64_succ, hr]
    rw [ih, List.append_assoc]
theorem ewtok_Join_math : ∀ (l0 : List PieceT), (ewtok_Join_ok l0 = true) → ∃ n, ewtok_Join_sh n l0 = ewtok_Join_ret (ewtok_Join l0) := fun l h => ⟨l.length + 1, by
  unfold ewtok_Join_ok at h
  simp only [Bool.and_eq_true, decide_eq_true_eq] at h
  have hl := lenOk_le h.1
  unfold ewtok_Join_sh
  exact Join_loop (ewtok_Join_k3_0 (l.length + 1)) l hl l.length 0 (l.length + 1) [] (by omega) (by omega) (by simpa using h.2)⟩
theorem Words_loop (k0 : Int → Option AV) (L : List PieceT) (hl : L.length ≤ 1048576) : ∀ (d i n m : Nat), i + d = L.length → d < n → m + d ≤ 1048576 →
    ewtok_Words_l3 k0 n (m : Nat) L (L.length : Nat) (i : Nat) = k0 ((m + (L.drop i).countP (fun p => p.1 == 3) : Nat) : Int)
  | d, i, 0, m, hi, hn, hm => by omega
  | 0, i, n + 1, m, hi, hn, hm => by
    show ewtok_Words_l3_b k0 (ewtok_Words_l3 k0 n) n _ _ _ _ = _
    unfold ewtok_Words_l3_b
    rw [dF (by omega), cond_false, List.drop_eq_nil_of_le (by omega)]
    rfl
  | d + 1, i, n + 1, m, hi, hn, hm => by
    show ewtok_Words_l3_b k0 (ewtok_Words_l3 k0 n) n _ _ _ _ = _
    unfold ewtok_Words_l3_b
    have hlt : i < L.length := by omega
    have h1 := Words_loop k0 L hl d (i + 1) n m (by omega) (by omega) (by omega)
    have h2 := Words_loop k0 L hl d (i + 1) n (m + 1) (by omega) (by omega) (by omega)
    rw [getD_drop (d := d0) hlt, List.countP_cons]
    simp (disch := omega) only [dT, cond_true, Bool.and_true, tn, i64_succ]
    cases ((List.getD L i d0).1 == 3) with
    | true => rw [cond_true, h2]; congr 2; simp; omega
    | false => rw [cond_false, h1]; congr 2
theorem ewtok_Words_math : ∀ (s0 : List UInt8), (ewtok_Words_ok s0 = true) → ∃ n, ewtok_Words_sh n s0 = ewtok_Words_ret (ewtok_Words s0) := fun s h => ⟨s.length + 1, by
  have hl := lenOk_le h
  have hp := pieces_len s
  unfold ewtok_Words_sh
  rw [show ewtok_Pieces_ok s = true from h, show ewtok_Pieces s = pieces s from rfl]
  have := Words_loop (ewtok_Words_k3_0 (s.length + 1)) (pieces s) (by omega) (pieces s).length 0 (s.length + 1) 0 (by omega) (by omega) (by omega)
  refine Eq.trans this ?_
  rw [Nat.zero_add, List.drop_zero]
  rfl⟩
theorem psame_loop (ret : Bool → Option AV) (k0 : Option AV) (hk : k0 = ret true) (a b : List PieceT) (hl : a.length ≤ 1048576) (hab : a.length = b.length) (hm : ∀ f ∈ a, pOk f = true) : ∀ (d i n : Nat), i + d = a.length → d < n →
    law32_same_l4 ret k0 n a b (a.length : Nat) (i : Nat) = ret (decide (a.drop i = b.drop i))
  | d, i, 0, hi, hn => by omega
  | 0, i, n + 1, hi, hn => by
    show law32_same_l4_b ret k0 (law32_same_l4 ret k0 n) n _ _ _ _ = _
    unfold law32_same_l4_b
    rw [dF (by omega), cond_false, List.drop_eq_nil_of_le (by omega), List.drop_eq_nil_of_le (by omega), hk]
    rfl
  | d + 1, i, n + 1, hi, hn => by
    show law32_same_l4_b ret k0 (law32_same_l4 ret k0 n) n _ _ _ _ = _
    unfold law32_same_l4_b
    have hlt : i < a.length := by omega
    have hlt' : i < b.length := by omega
    have ih := psame_loop ret k0 hk a b hl hab hm d (i + 1) n (by omega) (by omega)
    have hmem : List.getD a i d0 ∈ a := by rw [List.getD_eq_getElem?_getD, List.getElem?_eq_getElem hlt]; exact List.getElem_mem _
    have e1 : ref01_Like_ok (List.getD a i d0).2.1 (List.getD b i d0).2.1 = true := hm _ hmem
    rw [getD_drop (d := d0) hlt, getD_drop (d := d0) hlt']
    simp (disch := omega) only [dT, cond_true, Bool.and_true, tn, i64_succ, e1]
    generalize List.getD a i d0 = f
    generalize List.getD b i d0 = g
    obtain ⟨f1, f2, ⟨⟩⟩ := f
    obtain ⟨g1, g2, ⟨⟩⟩ := g
    unfold ref01_Like
    by_cases h1 : f1 = g1
    · by_cases h2 : f2 = g2
      · subst h1 h2
        simp only [decide_true, Bool.not_true, cond_false, bne_self_eq_false]
        rw [ih]
        simp
      · simp [h1, h2]
    · rw [bneT h1, cond_true, decide_eq_false (fun e => h1 (by simp only [List.cons.injEq, Prod.mk.injEq] at e; exact e.1.1))]
theorem law32_same_math : ∀ (a0 : List PieceT) (b1 : List PieceT), (law32_same_ok a0 b1 = true) → ∃ n, law32_same_sh n a0 b1 = law32_same_ret (law32_same a0 b1) := fun a b h => ⟨a.length + 1, by
  unfold law32_same_ok at h
  simp only [Bool.and_eq_true, List.all_eq_true] at h
  have hl := lenOk_le h.1
  unfold law32_same_sh law32_same
  by_cases hab : a.length = b.length
  · rw [bneF (by omega), cond_false]
    exact psame_loop law32_same_ret (law32_same_k4_0 (a.length + 1)) rfl a b hl hab h.2 a.length 0 (a.length + 1) (by omega) (by omega)
  · rw [bneT (by omega), cond_true, decide_eq_false (fun e => hab (by rw [e]))]⟩
theorem law32_alive_math : ∃ n, law32_alive_sh n  = law32_alive_ret law32_alive := ⟨0, by kernel_rfl⟩
end Go.Av
