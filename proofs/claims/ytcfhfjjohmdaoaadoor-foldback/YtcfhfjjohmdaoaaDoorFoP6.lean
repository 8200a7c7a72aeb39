/-
  The shallow reading of the document's folding computes what FoM says; another law.
-/
import Derived.Test.YtcfhfjjohmdaoaaDoorFoP5
namespace Go.Av

theorem refCheck_loop (ret : List UInt8 → Int → Option AV) (k0 : List UInt8 → Int → Int → Option AV) (s : List UInt8) (a b : Int) (hl : s.length ≤ 1048576) : ∀ (d i n : Nat), i + d = s.length → d < n →
    ref27_Fold_l4 ret k0 n s a b (i : Nat) = bif (s.drop i).all plainC then k0 s a b else ret [] 3
  | d, i, 0, hi, hn => by omega
  | 0, i, n + 1, hi, hn => by
    show ref27_Fold_l4_b ret k0 (ref27_Fold_l4 ret k0 n) n s a b _ = _
    unfold ref27_Fold_l4_b
    rw [decide_eq_false (by omega), cond_false, List.drop_eq_nil_of_le (by omega)]
    rfl
  | d + 1, i, n + 1, hi, hn => by
    show ref27_Fold_l4_b ret k0 (ref27_Fold_l4 ret k0 n) n s a b _ = _
    unfold ref27_Fold_l4_b
    have hlt : i < s.length := by omega
    rw [dec_lt, decide_eq_true hlt, cond_true, dec_nonneg, Bool.true_and, cond_true, toNat_nat, i64_succ (by omega), refCheck_loop ret k0 s a b hl d (i + 1) n (by omega) (by omega), getD_drop (d := 0) hlt, List.all_cons, cond_true]
    unfold plainC
    cases decide (s.getD i 0 < (32 : UInt8)) <;> cases decide ((126 : UInt8) < s.getD i 0) <;> rfl

/-- A place found, counted from a place on. -/
def encA (frm : Nat) : Nat → Int
  | 0 => -1
  | k + 1 => ((frm + (k + 1) : Nat) : Int)

theorem ref_l13 (k4 : List UInt8 → Int → List UInt8 → Int → Int → Option AV) (s : List UInt8) (most : Int) (out : List UInt8) (frm rm : Nat) (hl : s.length ≤ 1048576) (hr : rm < (s.drop frm).length) : ∀ (d t n : Nat), t + d = rm → d < n →
    ref27_Fold_l13 k4 n s most out (frm : Nat) (rm : Nat) (encA frm (spAt (s.drop frm) t)) ((frm + t + 1 : Nat) : Int) = k4 s most out (frm : Nat) (encA frm (spAt (s.drop frm) rm))
  | d, t, 0, hi, hn => by omega
  | 0, t, n + 1, hi, hn => by
    show ref27_Fold_l13_b k4 (ref27_Fold_l13 k4 n) n s most out _ _ _ _ = _
    unfold ref27_Fold_l13_b
    rw [List.length_drop] at hr
    obtain rfl : t = rm := by omega
    rw [IntWalk.i64_in _ (by omega), decide_eq_false (by omega), cond_false]
  | d + 1, t, n + 1, hi, hn => by
    show ref27_Fold_l13_b k4 (ref27_Fold_l13 k4 n) n s most out _ _ _ _ = _
    unfold ref27_Fold_l13_b
    have hr' := hr
    rw [List.length_drop] at hr'
    have hlt : frm + t + 1 < s.length := by omega
    have ih := ref_l13 k4 s most out frm rm hl hr d (t + 1) n (by omega) (by omega)
    have e : spAt (s.drop frm) (t + 1) = bif List.getD (s.drop frm) (t + 1) 0 == 32 then t + 1 else spAt (s.drop frm) t := rfl
    have hg : List.getD (s.drop frm) (t + 1) 0 = List.getD s (frm + t + 1) 0 := by
      simp only [List.getD_eq_getElem?_getD, List.getElem?_drop]
      rw [show frm + (t + 1) = frm + t + 1 by omega]
    rw [e, hg] at ih
    rw [IntWalk.i64_in ((frm : Int) + (rm : Int)) (by omega), decide_eq_true (show ((frm + t + 1 : Nat) : Int) ≤ (frm : Int) + (rm : Int) by omega), cond_true, dec_lt, decide_eq_true hlt, cond_true, dec_nonneg, Bool.true_and, cond_true, toNat_nat, i64_succ (by omega)]
    rw [show frm + (t + 1) + 1 = frm + t + 1 + 1 by omega] at ih
    cases hb : (List.getD s (frm + t + 1) 0 == 32) with
    | true =>
      rw [hb] at ih
      exact ih
    | false =>
      rw [hb] at ih
      exact ih

theorem ref_l10 (n0 : Nat) (s : List UInt8) (most : Nat) (hl : s.length ≤ 1048576) (hm : most ≤ 1000) : ∀ (f frm rm n : Nat) (out : List UInt8), frm ≤ s.length → rm ≤ 1000 → s.length - frm < f → f + s.length + 2000 < n → out.length + 3 * (s.length - frm) ≤ 8388608 →
    ref27_Fold_l10 ref27_Fold_ret (ref27_Fold_k10_2 n0) n s (most : Nat) out (frm : Nat) (rm : Nat) = match foldLines f (s.drop frm) rm most with | some (l, r) => ref27_Fold_ret (out ++ (joinCL l ++ r)) 0 | none => ref27_Fold_ret [] 12
  | 0, frm, rm, n, out, hf, hrm, hd, hn, ho => by omega
  | f + 1, frm, rm, 0, out, hf, hrm, hd, hn, ho => by omega
  | f + 1, frm, rm, n + 1, out, hf, hrm, hd, hn, ho => by
    show ref27_Fold_l10_b ref27_Fold_ret (ref27_Fold_k10_2 n0) (ref27_Fold_l10 ref27_Fold_ret (ref27_Fold_k10_2 n0) n) n s _ out _ _ = _
    unfold ref27_Fold_l10_b foldLines
    have hld : (s.drop frm).length = s.length - frm := List.length_drop
    rw [IntWalk.i64_in (((s.length : Nat) : Int) - (frm : Int)) (by omega)]
    by_cases h : rm < s.length - frm
    · rw [decide_eq_true (show (rm : Int) < ((s.length : Nat) : Int) - (frm : Int) by omega), decide_eq_false (show ¬ (s.drop frm).length ≤ rm by omega), cond_true, cond_false]
      have h13 := ref_l13 (ref27_Fold_k13_4 ref27_Fold_ret (ref27_Fold_k10_2 n0) (ref27_Fold_l10 ref27_Fold_ret (ref27_Fold_k10_2 n0) n) n) s (most : Nat) out frm rm hl (by omega) rm 0 n (by omega) (by omega)
      rw [Nat.add_zero] at h13
      rw [i64_succ (i := frm) (by omega)]
      refine h13.trans ?_
      have hle := spAt_le (s.drop frm) rm
      generalize spAt (s.drop frm) rm = k at hle
      cases k with
      | zero => rfl
      | succ k =>
        have ih := ref_l10 n0 s most hl hm f (frm + (k + 1)) most n (out ++ (s.drop frm).take (k + 1) ++ [13, 10]) (by omega) hm (by omega) (by omega) (by simp only [List.length_append, List.length_take, List.length_cons, List.length_nil]; omega)
        unfold ref27_Fold_k13_4
        rw [show encA frm (k + 1) = ((frm + (k + 1) : Nat) : Int) from rfl, decide_eq_false (by omega), cond_false, dec_nonneg, decide_eq_true (show (frm : Int) ≤ ((frm + (k + 1) : Nat) : Int) by omega), decide_eq_true (show ((frm + (k + 1) : Nat) : Int) ≤ ((s.length : Nat) : Int) by omega)]
        rw [toNat_nat, toNat_nat]
        have ht : List.drop frm (List.take (frm + (k + 1)) s) = (s.drop frm).take (k + 1) := by rw [List.drop_take]; congr 1; omega
        rw [ht, decide_eq_true (by unfold room; rw [List.length_take]; omega), decide_eq_true (by unfold room; simp only [List.length_append, List.length_take, List.length_cons, List.length_nil]; omega), cond_true, cond_true]
        refine ih.trans ?_
        have hdd : (s.drop frm).drop (k + 1) = s.drop (frm + (k + 1)) := by rw [List.drop_drop]
        show _ = match (match foldLines f ((s.drop frm).drop (k + 1)) most most with | some (l, r) => some ((s.drop frm).take (k + 1) :: l, r) | none => none) with | some (l, r) => ref27_Fold_ret (out ++ (joinCL l ++ r)) 0 | none => ref27_Fold_ret [] 12
        rw [hdd]
        cases foldLines f (s.drop (frm + (k + 1))) most most with
        | none => rfl
        | some q =>
          obtain ⟨l, r⟩ := q
          show ref27_Fold_ret (out ++ (s.drop frm).take (k + 1) ++ [13, 10] ++ (joinCL l ++ r)) 0 = ref27_Fold_ret (out ++ (joinCL ((s.drop frm).take (k + 1) :: l) ++ r)) 0
          unfold joinCL
          rw [List.flatMap_cons]
          simp only [List.append_assoc]
    · rw [decide_eq_false (show ¬ (rm : Int) < ((s.length : Nat) : Int) - (frm : Int) by omega), decide_eq_true (show (s.drop frm).length ≤ rm by omega), cond_false, cond_true]
      unfold ref27_Fold_k10_2
      rw [dec_nonneg, decide_eq_true (show (frm : Int) ≤ ((s.length : Nat) : Int) by omega), decide_eq_true (Int.le_refl ((s.length : Nat) : Int)), toNat_nat, toNat_nat, List.take_length, decide_eq_true (by unfold room; omega)]
      rfl

theorem ref27_Fold_math : ∀ (s0 : List UInt8) (first1 : Int) (most2 : Int), (ref27_Fold_ok s0 first1 most2 = true) → ∃ n, ref27_Fold_sh n s0 first1 most2 = ref27_Fold_ret (ref27_Fold s0 first1 most2).1 (ref27_Fold s0 first1 most2).2 := fun s a b h => ⟨2 * s.length + 4000, by
  have hl := lenOk_le h
  unfold ref27_Fold_sh ref27_Fold fold_Fold
  have hbad : badRooms a b = true → fold_check s a b = 1 := fun hb => by unfold fold_check; rw [hb]; rfl
  have hrooms : badRooms a b = (decide (b < 1) || (decide (1000 < b) || (decide (a < 0) || decide (b < a)))) := rfl
  cases h1 : decide (b < 1) with
  | true => rw [h1] at hrooms; rw [hbad hrooms]; rfl
  | false =>
  cases h2 : decide (1000 < b) with
  | true => rw [h1, h2] at hrooms; rw [hbad hrooms]; rfl
  | false =>
  cases h3 : decide (a < 0) with
  | true => rw [h1, h2, h3] at hrooms; rw [hbad hrooms]; rfl
  | false =>
  cases h4 : decide (b < a) with
  | true => rw [h1, h2, h3, h4] at hrooms; rw [hbad hrooms]; rfl
  | false =>
    rw [h1, h2, h3, h4] at hrooms
    have hb : badRooms a b = false := hrooms
    obtain ⟨g1, g2, g3, g4⟩ := rooms_ok hb
    obtain ⟨most, rfl⟩ : ∃ m : Nat, b = m := ⟨b.toNat, by omega⟩
    obtain ⟨first, rfl⟩ : ∃ m : Nat, a = m := ⟨a.toNat, by omega⟩
    rw [toNat_nat, toNat_nat]
    simp only [cond_false]
    have hcl := refCheck_loop ref27_Fold_ret (ref27_Fold_k4_0 (2 * s.length + 4000)) s first most hl s.length 0 (2 * s.length + 4000) (by omega) (by omega)
    refine hcl.trans ?_
    rw [List.drop_zero]
    have hc : fold_check s first most = bif s.all plainC then 0 else 3 := by unfold fold_check; rw [hb]; rfl
    rw [hc]
    cases s.all plainC with
    | false => rfl
    | true =>
      have h10 := ref_l10 (2 * s.length + 4000) s most hl (by omega) (s.length + 1) 0 first (2 * s.length + 4000) [] (by omega) (by omega) (by omega) (by omega) (by simp; omega)
      refine Eq.trans ?_ (h10.trans ?_)
      · rfl
      · rw [List.drop_zero]
        show _ = ref27_Fold_ret (match foldLines (s.length + 1) s first most with | some (ls, r) => (joinCL ls ++ r, (0 : Int)) | none => ([], 12)).1 (match foldLines (s.length + 1) s first most with | some (ls, r) => (joinCL ls ++ r, (0 : Int)) | none => ([], 12)).2
        cases foldLines (s.length + 1) s first most with
        | none => rfl
        | some q => rfl⟩

theorem fold_Again_math : ∀ (s0 : List UInt8) (first1 : Int) (most2 : Int), (fold_Again_ok s0 first1 most2 = true) → ∃ n, fold_Again_sh n s0 first1 most2 = fold_Again_ret (fold_Again s0 first1 most2).1 (fold_Again s0 first1 most2).2 := fun s a b h => ⟨0, by
  unfold fold_Again_sh
  rw [show fold_Unfold_ok s = true from h, show fold_Fold_ok (fold_Unfold s) a b = true from lenOk_mono h (unf_le s)]
  rfl⟩

theorem fold_len (s : List UInt8) (a b : Int) : (fold_Fold s a b).1.length ≤ 3 * s.length := by
  unfold fold_Fold
  cases fold_check s a b != 0 with
  | true => simp
  | false =>
    rw [cond_false]
    cases hq : foldLines (s.length + 1) s a.toNat b.toNat with
    | none => simp
    | some q =>
      obtain ⟨l, r⟩ := q
      have := foldLines_len _ _ _ _ _ _ hq
      simp only [List.length_append]
      omega

theorem law27_FoldFolds_math : ∀ (s0 : List UInt8) (first1 : Int) (most2 : Int), ∃ n, law27_FoldFolds_sh n s0 first1 most2 = law27_FoldFolds_ret (law27_FoldFolds s0 first1 most2) := fun s a b => ⟨0, by
  unfold law27_FoldFolds_sh
  by_cases h : (600 : Int) < ((s.length : Nat) : Int)
  · rw [decide_eq_true h]; rfl
  · have hs : lenOk s = true := by unfold lenOk; rw [decide_eq_true_eq]; omega
    have hu := lenOk_mono hs (unf_le s)
    have h1 := fold_len s a b
    have h2 := fold_len (unf s) a b
    have h3 := unf_le s
    have k1 : ref01_Like_ok (fold_Fold s a b).1 (fold_Fold s a b).1 = true := by show lenOk _ = true; unfold lenOk; rw [decide_eq_true_eq]; omega
    have k2 : ref01_Like_ok (fold_Fold (unf s) a b).1 (fold_Fold (unf s) a b).1 = true := by show lenOk _ = true; unfold lenOk; rw [decide_eq_true_eq]; omega
    rw [decide_eq_false h, show fold_Fold_ok s a b = true from hs, show ref27_Fold_ok s a b = true from hs, show fold_Again_ok s a b = true from hs, show ref27_Unfold_ok s = true from hs, show (ref27_Unfold s).1 = unf s from rfl, show ref27_Fold_ok (unf s) a b = true from hu,
      show ref27_Fold s a b = fold_Fold s a b from rfl, show ref27_Fold (unf s) a b = fold_Fold (unf s) a b from rfl, show fold_Again s a b = fold_Fold (unf s) a b from rfl, k1, k2, like_self, like_self, beq_self_eq_true, beq_self_eq_true]
    rfl⟩
end Go.Av
