/-
  The shallow readings of the layer 'fold' compute what FoM says: folds taken out.
-/
import Derived.Test.YtcfhfjjohmdaoaaDoorFiP2
namespace Go.Av

theorem bytes_Cut_math : ∀ (s0 : List UInt8) (sep1 : List UInt8), (bytes_Cut_ok s0 sep1 = true) → ∃ n, bytes_Cut_sh n s0 sep1 = bytes_Cut_ret (bytes_Cut s0 sep1).1 (bytes_Cut s0 sep1).2.1 (bytes_Cut s0 sep1).2.2 := fun s sep h => ⟨0, by
  have h0 := h
  unfold bytes_Cut_ok at h
  rw [Bool.and_eq_true] at h
  have hl := lenOk_le h.1
  have hl2 := lenOk_le (Bool.and_eq_true _ _ ▸ h.2).1
  unfold bytes_Cut_sh bytes_Cut bytes_Index
  rw [show bytes_Index_ok s sep = true from h0]
  by_cases h1 : 0 ≤ Lib.index s sep
  · have hr := Lib.index_room s sep h1
    have e : IntKind.wrap .i64 (Lib.index s sep + ((sep.length : Nat) : Int)) = Lib.index s sep + ((sep.length : Nat) : Int) := IntWalk.i64_in _ (by omega)
    rw [e, decide_eq_true h1, decide_eq_true (show (0 : Int) ≤ ((0 : Nat) : Int) by omega), decide_eq_true (show ((0 : Nat) : Int) ≤ Lib.index s sep by omega), decide_eq_true (show Lib.index s sep ≤ ((s.length : Nat) : Int) by omega),
      decide_eq_true (show (0 : Int) ≤ Lib.index s sep + ((sep.length : Nat) : Int) by omega), decide_eq_true (show Lib.index s sep + ((sep.length : Nat) : Int) ≤ ((s.length : Nat) : Int) by omega), decide_eq_true (Int.le_refl ((s.length : Nat) : Int)), toNat_nat, toNat_nat, List.take_length,
      show Int.toNat (Lib.index s sep + ((sep.length : Nat) : Int)) = (Lib.index s sep).toNat + sep.length by omega]
    rfl
  · rw [decide_eq_false h1]; rfl⟩

theorem unfS_one (x : UInt8) (r : List UInt8) : unfS 1 (x :: r) = unf r := by cases r <;> rfl
theorem nfS_one (x : UInt8) (r : List UInt8) : nfS 1 (x :: r) = nfolds r := by cases r <;> rfl
theorem unf_cons (x : UInt8) (r : List UInt8) : unf (x :: r) = bif isFold (x :: r) then unf (r.drop 1) else x :: unf r := by
  show (bif isFold (x :: r) then unfS 1 r else x :: unfS 0 r) = _
  cases r with
  | nil => rfl
  | cons y r => rw [unfS_one]; rfl
theorem nfolds_cons (x : UInt8) (r : List UInt8) : nfolds (x :: r) = bif isFold (x :: r) then nfolds (r.drop 1) + 1 else nfolds r := by
  show (bif isFold (x :: r) then nfS 1 r + 1 else nfS 0 r) = _
  cases r with
  | nil => rfl
  | cons y r => rw [nfS_one]; rfl
theorem unf_nil : unf [] = [] := rfl
theorem nfolds_nil : nfolds [] = 0 := rfl

theorem isFold_len {x : UInt8} {r : List UInt8} (h : isFold (x :: r) = true) : 2 ≤ r.length := by
  match r, h with
  | [], h => cases h
  | [_], h => cases h
  | _ :: _ :: _, _ => simp

theorem unf_len : ∀ (n : Nat) (s : List UInt8), s.length ≤ n → (unf s).length + 2 * nfolds s = s.length
  | _, [], _ => rfl
  | 0, _ :: _, h => by simp at h
  | n + 1, x :: r, h => by
    rw [unf_cons, nfolds_cons]
    cases hf : isFold (x :: r) with
    | true =>
      have h2 := isFold_len hf
      have ih := unf_len n (r.drop 1) (by simp at h ⊢; omega)
      rw [List.length_drop] at ih
      simp only [cond_true, List.length_cons]
      omega
    | false =>
      have ih := unf_len n r (by simpa using h)
      simp only [cond_false, List.length_cons]
      omega

/-- What follows a line end. -/
def tailF (rest : List UInt8) : List UInt8 := match rest with
  | [] => [13, 10]
  | c :: r => bif blank c then unf (c :: r) else 13 :: 10 :: unf (c :: r)

theorem unf_tail (rest : List UInt8) : unf (13 :: 10 :: rest) = tailF rest := by
  have h10 : ∀ r, isFold (10 :: r) = false := fun r => by
    match r with
    | [] => rfl
    | [_] => rfl
    | _ :: _ :: _ => rfl
  rw [unf_cons, unf_cons, h10]
  cases rest with
  | nil => rfl
  | cons c r =>
    show (bif blank c then unf (c :: r) else 13 :: 10 :: unf (c :: r)) = _
    rfl

theorem crlf_pre (x : UInt8) (r : List UInt8) : (([13, 10] : List UInt8).isPrefixOf (x :: r)) = true → ∃ rest, x = 13 ∧ r = 10 :: rest := by
  intro h
  cases r with
  | nil => simp [List.isPrefixOf] at h
  | cons y r =>
    simp [List.isPrefixOf] at h
    exact ⟨r, h.1.symm, by rw [h.2]⟩
theorem isFold_pre (x : UInt8) (r : List UInt8) (h : isFold (x :: r) = true) : (([13, 10] : List UInt8).isPrefixOf (x :: r)) = true := by
  match r, h with
  | [], h => cases h
  | [_], h => cases h
  | b :: c :: r, h =>
    simp only [isFold, Bool.and_eq_true, beq_iff_eq] at h
    rw [h.1, h.2.1]
    simp [List.isPrefixOf]

theorem unf_index : ∀ s : List UInt8, (Lib.index s [13, 10] = -1 ∧ unf s = s) ∨ (0 ≤ Lib.index s [13, 10] ∧ (Lib.index s [13, 10]).toNat + 2 ≤ s.length ∧ unf s = s.take (Lib.index s [13, 10]).toNat ++ tailF (s.drop ((Lib.index s [13, 10]).toNat + 2)))
  | [] => .inl ⟨rfl, rfl⟩
  | x :: r => by
    have hi : Lib.index (x :: r) [13, 10] = if ([13, 10] : List UInt8).isPrefixOf (x :: r) then 0 else if Lib.index r [13, 10] == -1 then -1 else Lib.index r [13, 10] + 1 := rfl
    cases hp : ([13, 10] : List UInt8).isPrefixOf (x :: r) with
    | true =>
      obtain ⟨rest, rfl, rfl⟩ := crlf_pre x r hp
      right
      rw [hi, hp]
      refine ⟨Int.le_refl _, by simp, ?_⟩
      rw [unf_tail]
      rfl
    | false =>
      have hf : isFold (x :: r) = false := by
        cases h : isFold (x :: r) with
        | false => rfl
        | true => rw [isFold_pre x r h] at hp; cases hp
      rw [hi, hp, unf_cons, hf]
      simp only [Bool.false_eq_true, if_false, cond_false]
      rcases unf_index r with ⟨h1, h2⟩ | ⟨h1, h2, h3⟩
      · left
        rw [h1]
        exact ⟨rfl, by rw [h2]⟩
      · right
        have hne : (Lib.index r [13, 10] == -1) = false := by rw [beq_eq_false_iff_ne]; omega
        rw [hne]
        simp only [Bool.false_eq_true, if_false]
        have e : (Lib.index r [13, 10] + 1).toNat = (Lib.index r [13, 10]).toNat + 1 := by omega
        rw [e]
        refine ⟨by omega, by simp; omega, ?_⟩
        rw [h3, List.take_succ_cons, show (Lib.index r [13, 10]).toNat + 1 + 2 = ((Lib.index r [13, 10]).toNat + 2) + 1 by omega, List.drop_succ_cons]
        rfl

theorem is_blank : ∀ i : Fin 256, octet_Is (UInt8.ofNat i.val) 2 = blank (UInt8.ofNat i.val) := by decide +kernel
theorem fin_of {P : UInt8 → Prop} (h : ∀ i : Fin 256, P (UInt8.ofNat i.val)) (c : UInt8) : P c := by
  have := h ⟨c.toNat, c.toNat_lt⟩
  simpa using this
theorem blanks (c : UInt8) : octet_Is c 2 = blank c := fin_of (P := fun c => octet_Is c 2 = blank c) is_blank c

theorem Unfold_loop (ret : List UInt8 → Option AV) : ∀ (d : Nat) (s out : List UInt8) (n : Nat), s.length ≤ d → d < n → out.length + s.length ≤ 1048576 → fold_Unfold_l2 ret n s out = ret (out ++ unf s)
  | d, s, out, 0, hd, hn, ho => by omega
  | d, s, out, n + 1, hd, hn, ho => by
    show fold_Unfold_l2_b ret (fold_Unfold_l2 ret n) n s out = _
    unfold fold_Unfold_l2_b
    have hok : bytes_Cut_ok s [13, 10] = true := by unfold bytes_Cut_ok; rw [Bool.and_eq_true]; exact ⟨by unfold lenOk; rw [decide_eq_true_eq]; omega, rfl⟩
    rw [hok]
    rcases unf_index s with ⟨h1, h2⟩ | ⟨h1, h2, h3⟩
    · have hc : bytes_Cut s [13, 10] = (s, [], false) := by
        unfold bytes_Cut
        rw [h1]
        rfl
      rw [hc, h2]
      simp only [Bool.and_self, cond_true, Bool.not_false]
      rw [decide_eq_true (by unfold room; omega)]
      rfl
    · have hc : bytes_Cut s [13, 10] = (s.take (Lib.index s [13, 10]).toNat, s.drop ((Lib.index s [13, 10]).toNat + 2), true) := by
        unfold bytes_Cut
        rw [decide_eq_true h1]
        rfl
      rw [hc, h3]
      generalize (Lib.index s [13, 10]).toNat = k at h2
      have hlt : (s.take k).length = k := by rw [List.length_take]; omega
      have hld : (s.drop (k + 2)).length = s.length - (k + 2) := by rw [List.length_drop]
      simp only [Bool.and_self, cond_true, Bool.not_true, cond_false]
      rw [decide_eq_true (by unfold room; omega), cond_true]
      have ih1 := Unfold_loop ret (d - 1) (s.drop (k + 2)) (out ++ s.take k ++ [13, 10]) n (by omega) (by omega) (by simp only [List.length_append, hlt, hld, List.length_cons, List.length_nil]; omega)
      have ih2 := Unfold_loop ret (d - 1) (s.drop (k + 2)) (out ++ s.take k) n (by omega) (by omega) (by simp only [List.length_append, hlt, hld]; omega)
      have hroom : decide ((out ++ s.take k).length + ([13, 10] : List UInt8).length ≤ Go.Av.room) = true := by
        rw [decide_eq_true_eq]; unfold Go.Av.room; simp only [List.length_append, hlt, List.length_cons, List.length_nil]; omega
      rw [hroom]
      cases hr : s.drop (k + 2) with
      | nil =>
        rw [hr] at ih1
        simp only [List.length_nil]
        show fold_Unfold_l2 ret n [] (out ++ s.take k ++ [13, 10]) = _
        rw [ih1, unf_nil]
        simp [tailF]
      | cons c r =>
        rw [hr] at ih1 ih2
        have h0 : ((((c :: r).length : Nat) : Int) == 0) = false := by rw [beq_eq_false_iff_ne]; simp only [List.length_cons]; omega
        rw [h0, decide_eq_true (Int.le_refl _), decide_eq_true (show (0 : Int) < (((c :: r).length : Nat) : Int) by simp only [List.length_cons]; omega)]
        simp only [Bool.and_self, cond_true, cond_false, Int.toNat_zero, List.getD_cons_zero, blanks, ih1, ih2]
        cases hb : blank c <;> simp [tailF, hb, List.append_assoc]

theorem fold_Unfold_math : ∀ (s0 : List UInt8), (fold_Unfold_ok s0 = true) → ∃ n, fold_Unfold_sh n s0 = fold_Unfold_ret (fold_Unfold s0) := fun s h => ⟨s.length + 1, by
  have := Unfold_loop fold_Unfold_ret s.length s [] (s.length + 1) (Nat.le_refl _) (by omega) (by have := lenOk_le h; simp; omega)
  exact this⟩
theorem fold_Folds_math : ∀ (s0 : List UInt8), (fold_Folds_ok s0 = true) → ∃ n, fold_Folds_sh n s0 = fold_Folds_ret (fold_Folds s0) := fun s h => ⟨0, by
  have hl := lenOk_le h
  have hu := unf_len s.length s (Nat.le_refl _)
  unfold fold_Folds_sh fold_Folds fold_Unfold
  rw [show fold_Unfold_ok s = true from h, IntWalk.i64_in (((s.length : Nat) : Int) - (((unf s).length : Nat) : Int)) (by omega), Int.tdiv_eq_ediv_of_nonneg (by omega), IntWalk.i64_in _ (by omega),
    show (((s.length : Nat) : Int) - (((unf s).length : Nat) : Int)) / 2 = (nfolds s : Int) by omega]
  rfl⟩
end Go.Av
