/-
  The document's cut, kind and pieces.
-/
import Derived.Test.YtnfehbljinflbaaDoorEtP8
namespace Go.Av
theorem getD_last {α : Type} (pre : List α) (x d : α) : List.getD (pre ++ [x]) pre.length d = x := by
  rw [List.getD_eq_getElem?_getD, List.getElem?_append_right (Nat.le_refl _), Nat.sub_self]
  rfl
theorem set_last {α : Type} (pre : List α) (x y : α) : List.set (pre ++ [x]) pre.length y = pre ++ [y] := by
  rw [List.set_append_right _ _ (Nat.le_refl _), Nat.sub_self]
  rfl
theorem cut_loop (k0 : List (List UInt8) → Option AV) (s : List UInt8) (hl : s.length ≤ 1048576) : ∀ (d i n : Nat) (pre : List (List UInt8)) (cur : List UInt8), i + d = s.length → d < n → pre.length + d ≤ 1048576 → cur.length + d ≤ 1048576 →
    ref29_cut_l3 k0 n s (pre ++ [cur]) (i : Nat) = k0 (pre ++ cutC 63 cur (s.drop i))
  | d, i, 0, pre, cur, hi, hn, hp, hc => by omega
  | 0, i, n + 1, pre, cur, hi, hn, hp, hc => by
    show ref29_cut_l3_b k0 (ref29_cut_l3 k0 n) n _ _ _ = _
    unfold ref29_cut_l3_b
    rw [dF (by omega), cond_false, List.drop_eq_nil_of_le (by omega)]
    rfl
  | d + 1, i, n + 1, pre, cur, hi, hn, hp, hc => by
    show ref29_cut_l3_b k0 (ref29_cut_l3 k0 n) n _ _ _ = _
    unfold ref29_cut_l3_b
    have hlt : i < s.length := by omega
    have h1 := cut_loop k0 s hl d (i + 1) n (pre ++ [cur]) [] (by omega) (by omega) (by simp; omega) (by simp; omega)
    have h2 := cut_loop k0 s hl d (i + 1) n pre (cur ++ [List.getD s i 0]) (by omega) (by omega) (by omega) (by simp; omega)
    have hlen : (pre ++ [cur]).length = pre.length + 1 := by simp
    have hw : IntKind.wrap .i64 (((pre.length + 1 : Nat) : Int) - 1) = ((pre.length : Nat) : Int) := by rw [wr (by omega)]; omega
    have r1 : decide (pre.length + 1 + ([[]] : List (List UInt8)).length ≤ room) = true := dT (by unfold room; simp; omega)
    have r2 : decide (cur.length + ([List.getD s i 0] : List UInt8).length ≤ room) = true := dT (by unfold room; simp; omega)
    rw [getD_drop (d := (0 : UInt8)) hlt, cutC_cons, hlen, hw]
    simp (disch := omega) only [dT, cond_true, Bool.and_true, tn, i64_succ, getD_last, set_last, r1, r2, beq_self_eq_true]
    cases hx : (List.getD s i 0 == 63) with
    | true =>
      rw [cond_true, cond_true, h1, List.append_assoc]
      rfl
    | false => rw [cond_false, cond_false, h2]
theorem ref29_cut_math : ∀ (s0 : List UInt8), (ref29_cut_ok s0 = true) → ∃ n, ref29_cut_sh n s0 = ref29_cut_ret (ref29_cut s0) := fun s h => ⟨s.length + 1, by
  have hl := lenOk_le h
  unfold ref29_cut_sh
  exact cut_loop (ref29_cut_k3_0 (s.length + 1)) s hl s.length 0 (s.length + 1) [] [] (by omega) (by omega) (by simpa using hl) (by simpa using hl)⟩
theorem kind_loop (k0 : List UInt8 → Bool → Option AV) (s : List UInt8) (hl : s.length ≤ 1048576) : ∀ (d i n : Nat) (all : Bool), i + d = s.length → d < n →
    ref32_Kind_l3 k0 n s all (i : Nat) = k0 s (all && (s.drop i).all gapB)
  | d, i, 0, all, hi, hn => by omega
  | 0, i, n + 1, all, hi, hn => by
    show ref32_Kind_l3_b k0 (ref32_Kind_l3 k0 n) n _ _ _ = _
    unfold ref32_Kind_l3_b
    rw [dF (by omega), cond_false, List.drop_eq_nil_of_le (by omega)]
    rw [List.all_nil, Bool.and_true]
  | d + 1, i, n + 1, all, hi, hn => by
    show ref32_Kind_l3_b k0 (ref32_Kind_l3 k0 n) n _ _ _ = _
    unfold ref32_Kind_l3_b
    have hlt : i < s.length := by omega
    have h1 := kind_loop k0 s hl d (i + 1) n (gapB (List.getD s i 0)) (by omega) (by omega)
    have h2 := kind_loop k0 s hl d (i + 1) n false (by omega) (by omega)
    rw [getD_drop (d := (0 : UInt8)) hlt, List.all_cons]
    simp (disch := omega) only [dT, cond_true, Bool.and_true, tn, i64_succ, show ref32_gap (List.getD s i 0) = gapB (List.getD s i 0) from rfl]
    cases all with
    | true => rw [cond_true, h1, Bool.true_and]
    | false => rw [cond_false, h2]; rfl
theorem ref32_Kind_math : ∀ (run0 : List UInt8), (ref32_Kind_ok run0 = true) → ∃ n, ref32_Kind_sh n run0 = ref32_Kind_ret (ref32_Kind run0) := fun s h => ⟨s.length + 1, by
  have hl := lenOk_le h
  unfold ref32_Kind_sh
  refine (kind_loop (ref32_Kind_k3_0 (s.length + 1)) s hl s.length 0 (s.length + 1) _ (by omega) (by omega)).trans ?_
  unfold ref32_Kind_k3_0 ref32_Kind kindB
  rw [List.drop_zero, show ref29_Parse_ok s = true from h, show ref29_Parse s = ewform_Parse s from rfl]
  have he : decide ((0 : Int) < ((s.length : Nat) : Int)) = !s.isEmpty := by
    cases s with
    | nil => rfl
    | cons x r => exact dT (by simp only [List.length_cons]; omega)
  rw [he]
  unfold ewform_Is
  cases (!s.isEmpty && s.all gapB) <;> cases ((ewform_Parse s).2 == 0) <;> rfl⟩
theorem inner_loop (k2 : List UInt8 → List PieceT → Int → Int → Option AV) (s : List UInt8) (hl : s.length ≤ 1048576) (out : List PieceT) (i : Nat) (hi : i < s.length) : ∀ (d k n : Nat), k + d = s.length → d < n →
    ref32_Pieces_l5 k2 n s out (i : Nat) (k : Nat) = k2 s out (i : Nat) ((k + ((s.drop k).takeWhile fun x => gapB x == gapB (List.getD s i 0)).length : Nat) : Int)
  | d, k, 0, hk, hn => by omega
  | 0, k, n + 1, hk, hn => by
    show ref32_Pieces_l5_b k2 (ref32_Pieces_l5 k2 n) n _ _ _ _ = _
    unfold ref32_Pieces_l5_b
    rw [dF (by omega), cond_false, List.drop_eq_nil_of_le (by omega)]
    rfl
  | d + 1, k, n + 1, hk, hn => by
    show ref32_Pieces_l5_b k2 (ref32_Pieces_l5 k2 n) n _ _ _ _ = _
    unfold ref32_Pieces_l5_b
    have hlt : k < s.length := by omega
    have ih := inner_loop k2 s hl out i hi d (k + 1) n (by omega) (by omega)
    rw [getD_drop (d := (0 : UInt8)) hlt, List.takeWhile_cons]
    simp (disch := omega) only [dT, cond_true, Bool.and_true, tn, i64_succ, show ∀ c, ref32_gap c = gapB c from fun _ => rfl]
    cases hc : (gapB (List.getD s k 0) == gapB (List.getD s i 0)) with
    | true =>
      rw [cond_true, ih, if_pos rfl, List.length_cons]
      congr 2
      omega
    | false =>
      rw [cond_false, if_neg (by simp)]
      rfl
theorem alike_take {s : List UInt8} {i : Nat} (hi : i < s.length) : ((s.drop i).takeWhile fun x => gapB x == gapB (List.getD s i 0)).length = alike (s.drop i) := by
  rw [getD_drop (d := (0 : UInt8)) hi, List.takeWhile_cons]
  simp only [beq_self_eq_true, if_true, List.length_cons]
  rfl
theorem RPieces_loop (k0 : List PieceT → Option AV) (s : List UInt8) (hl : s.length ≤ 1048576) : ∀ (f i n : Nat) (out : List PieceT), s.length ≤ i + f → i ≤ s.length → s.length + (s.length - i) < n → out.length + (s.length - i) ≤ 1048576 →
    ref32_Pieces_l3 k0 n s out (i : Nat) = k0 (out ++ piecesF f (s.drop i))
  | f, i, 0, out, hf, hi, hn, ho => by omega
  | f, i, n + 1, out, hf, hi, hn, ho => by
    show ref32_Pieces_l3_b k0 (ref32_Pieces_l3 k0 n) n _ _ _ = _
    unfold ref32_Pieces_l3_b
    by_cases hlt : i < s.length
    · rw [dT (show (i : Int) < ((s.length : Nat) : Int) by omega), cond_true, inner_loop _ s hl out i hlt (s.length - i) i n (by omega) (by omega), alike_take hlt]
      have hne : s.drop i ≠ [] := fun e => by
        have := congrArg List.length e
        simp at this
        omega
      have h1 := alike_pos hne
      have h2 := alike_le (s.drop i)
      rw [List.length_drop] at h2
      unfold ref32_Pieces_k5_2
      match f, hf with
      | 0, hf => omega
      | f + 1, hf =>
        rw [piecesF_cons f hne, List.drop_drop]
        generalize hal : alike (s.drop i) = al at *
        have hsub : List.drop i (List.take (i + al) s) = (s.drop i).take al := by rw [List.drop_take]; congr 1; omega
        have htl : ((s.drop i).take al).length ≤ 1048576 := by rw [List.length_take]; omega
        have okk : ref32_Kind_ok ((s.drop i).take al) = true := lenOk_of htl
        have ih := RPieces_loop k0 s hl f (i + al) n (out ++ [(kindB ((s.drop i).take al), ((s.drop i).take al, ()))]) (by omega) (by omega) (by omega) (by simp; omega)
        have hr : decide (out.length + ([(kindB ((s.drop i).take al), ((s.drop i).take al, ()))] : List PieceT).length ≤ room) = true := dT (by unfold room; simp; omega)
        simp (disch := omega) only [dT, cond_true, Bool.and_true, tn, hsub, okk, show ref32_Kind ((s.drop i).take al) = kindB ((s.drop i).take al) from rfl, hr]
        rw [ih, List.append_assoc]
        rfl
    · rw [dF (by omega), cond_false, List.drop_eq_nil_of_le (by omega), piecesF_nil, List.append_nil]
theorem ref32_Pieces_math : ∀ (s0 : List UInt8), (ref32_Pieces_ok s0 = true) → ∃ n, ref32_Pieces_sh n s0 = ref32_Pieces_ret (ref32_Pieces s0) := fun s h => ⟨s.length + s.length + 1, by
  have hl := lenOk_le h
  unfold ref32_Pieces_sh
  exact RPieces_loop (ref32_Pieces_k3_0 (s.length + s.length + 1)) s hl s.length 0 (s.length + s.length + 1) [] (by omega) (by omega) (by omega) (by simpa using hl)⟩
end Go.Av
