/-
  The law FoldBack: a folded text unfolds to what was folded; no line is longer than its room.
-/
import Derived.Test.YtcfhfjjohmdaoaaDoorFoP6
namespace Go.Av

/-- A text s and its folded form, of a first room. -/
inductive Folded (most : Nat) : Nat → List UInt8 → List UInt8 → Prop
  | last {rm : Nat} {s : List UInt8} : s.length ≤ rm → Folded most rm s s
  | more {rm : Nat} {a : UInt8} {x y o : List UInt8} : (a :: x).length ≤ rm → Folded most most (32 :: y) o → Folded most rm ((a :: x) ++ 32 :: y) ((a :: x) ++ 13 :: 10 :: o)

theorem spAt_sp (s : List UInt8) : ∀ (n k : Nat), spAt s n = k + 1 → List.getD s (k + 1) 0 = 32
  | 0, k, h => by cases h
  | n + 1, k, h => by
    unfold spAt at h
    cases hc : List.getD s (n + 1) 0 == 32 with
    | true => rw [hc] at h; cases h; exact eq_of_beq hc
    | false => rw [hc] at h; exact spAt_sp s n k h

theorem drop_getD {s : List UInt8} {k : Nat} (h : List.getD s k 0 = 32) : ∃ y, s.drop k = 32 :: y := by
  by_cases hk : k < s.length
  · refine ⟨s.drop (k + 1), ?_⟩
    rw [List.drop_eq_getElem_cons hk]
    congr 1
    rw [← h]
    simp [List.getD, hk]
  · rw [show List.getD s k 0 = 0 by simp [List.getD, List.getElem?_eq_none (show s.length ≤ k by omega)]] at h
    cases h

theorem folded_of : ∀ (f : Nat) (s : List UInt8) (rm most : Nat) (l : List (List UInt8)) (r : List UInt8), foldLines f s rm most = some (l, r) → Folded most rm s (joinCL l ++ r)
  | 0, s, rm, most, l, r, h => by cases h
  | f + 1, s, rm, most, l, r, h => by
    unfold foldLines at h
    by_cases h1 : s.length ≤ rm
    · rw [decide_eq_true h1, cond_true] at h
      cases h
      exact .last h1
    · rw [decide_eq_false h1, cond_false] at h
      have hle := spAt_le s rm
      have hsp := spAt_sp s rm
      generalize spAt s rm = k at h hle hsp
      cases k with
      | zero => cases h
      | succ k =>
        simp only at h
        obtain ⟨y, hy⟩ := drop_getD (hsp k rfl)
        cases hq : foldLines f (s.drop (k + 1)) most most with
        | none => rw [hq] at h; cases h
        | some q =>
          obtain ⟨l', r'⟩ := q
          rw [hq] at h
          cases h
          have ih := folded_of f _ _ _ _ _ hq
          rw [hy] at ih
          have hs : s = s.take (k + 1) ++ 32 :: y := by rw [← hy, List.take_append_drop]
          have hlen : (s.take (k + 1)).length = k + 1 := by rw [List.length_take]; omega
          have ho : joinCL (s.take (k + 1) :: l') ++ r = s.take (k + 1) ++ 13 :: 10 :: (joinCL l' ++ r) := by
            unfold joinCL; rw [List.flatMap_cons]; simp only [List.append_assoc, List.cons_append, List.nil_append]
          rw [ho]
          revert hs hlen
          generalize s.take (k + 1) = x
          intro hs hlen
          subst hs
          cases x with
          | nil => cases hlen
          | cons a x => exact .more (by omega) ih

theorem folded_head {most rm : Nat} {s o : List UInt8} (h : Folded most rm s o) : ∀ c y, s = c :: y → ∃ o', o = c :: o' := by
  cases h with
  | last h => exact fun c y e => ⟨y, e⟩
  | more h k => intro c y e; cases e; exact ⟨_, rfl⟩

theorem plain_ne {c : UInt8} (h : plainC c = true) : c ≠ 13 ∧ c ≠ 10 := by
  constructor <;> (intro e; subst e; revert h; decide)

theorem unf_plain : ∀ (x y : List UInt8), x.all plainC = true → unf (x ++ y) = x ++ unf y
  | [], y, _ => rfl
  | c :: x, y, h => by
    simp only [List.all_cons, Bool.and_eq_true] at h
    have hf : isFold (c :: (x ++ y)) = false := by
      generalize x ++ y = z
      match z with
      | [] => rfl
      | [_] => rfl
      | b :: d :: _ =>
        show ((c == 13) && ((b == 10) && blank d)) = false
        rw [show (c == 13) = false from by simpa using (plain_ne h.1).1]
        rfl
    show unfS 0 (c :: (x ++ y)) = _
    unfold unfS
    rw [hf, cond_false]
    exact congrArg (c :: ·) (unf_plain x y h.2)

theorem unf_folded {most rm : Nat} {s o : List UInt8} (h : Folded most rm s o) : s.all plainC = true → unf o = s := by
  induction h with
  | last h =>
    intro hp
    have := unf_plain _ [] hp
    rw [List.append_nil] at this
    exact this.trans (List.append_nil _)
  | @more rm a x y o hle k ih =>
    intro hp
    rw [List.all_append, Bool.and_eq_true] at hp
    rw [unf_plain _ _ hp.1]
    obtain ⟨o', rfl⟩ := folded_head k _ _ rfl
    have := ih hp.2
    rw [show unf (13 :: 10 :: 32 :: o') = unf (32 :: o') from rfl, this]

theorem plain_right {s : List UInt8} : s.all plainC = true → s.any isBreak = false := by
  intro h
  rw [List.any_eq_false]
  intro c hc
  have := plain_ne (List.all_eq_true.1 h c hc)
  unfold isBreak
  simp [this.1, this.2]

theorem drop_cons {o : List UInt8} {i : Nat} {c : UInt8} {y : List UInt8} (h : o.drop i = c :: y) : i < o.length ∧ List.getD o i 0 = c ∧ o.drop (i + 1) = y := by
  have hi : i < o.length := by
    by_cases hi : i < o.length
    · exact hi
    · rw [List.drop_eq_nil_of_le (by omega)] at h; cases h
  have h' := h
  rw [List.drop_eq_getElem_cons hi] at h'
  injection h' with h1 h2
  exact ⟨hi, by simp [List.getD, hi, h1], h2⟩

section
variable (k0 : Int → Int → Option AV) (most : Nat) (o : List UInt8) (ho : o.length ≤ 4000)
include ho

theorem fb_run (rm : Nat) : ∀ (x y : List UInt8) (lg i n : Nat), o.drop i = x ++ y → x.all plainC = true → lg + x.length ≤ 8000 →
    law27_FoldBack_l10 law27_FoldBack_ret k0 (n + x.length) (most : Int) o (lg : Int) (rm : Int) (i : Int) = law27_FoldBack_l10 law27_FoldBack_ret k0 n (most : Int) o ((lg + x.length : Nat) : Int) (rm : Int) ((i + x.length : Nat) : Int)
  | [], y, lg, i, n, _, _, _ => rfl
  | c :: x, y, lg, i, n, hd, hp, hl => by
    simp only [List.all_cons, Bool.and_eq_true] at hp
    obtain ⟨hi, hg, hr⟩ := drop_cons hd
    rw [List.length_cons] at hl
    have ih := fb_run rm x y (lg + 1) (i + 1) n hr hp.2 (by omega)
    show law27_FoldBack_l10_b law27_FoldBack_ret k0 (law27_FoldBack_l10 law27_FoldBack_ret k0 (n + x.length)) (n + x.length) _ o _ _ _ = _
    unfold law27_FoldBack_l10_b
    rw [decide_eq_true (show (i : Int) < ((o.length : Nat) : Int) by omega), dec_nonneg, toNat_nat, hg, show (c != 13) = true from by simpa using (plain_ne hp.1).1, i64_succ (i := lg) (by omega), i64_succ (i := i) (by omega)]
    refine ih.trans ?_
    rw [List.length_cons, show lg + 1 + x.length = lg + (x.length + 1) by omega, show i + 1 + x.length = i + (x.length + 1) by omega]

theorem fb_l10 {rm : Nat} {s t : List UInt8} (h : Folded most rm s t) : ∀ (i n : Nat), o.drop i = t → s.all plainC = true → t.length < n →
    (∀ lg rm' : Nat, lg ≤ rm' → k0 (lg : Int) (rm' : Int) = law27_FoldBack_ret true) →
    law27_FoldBack_l10 law27_FoldBack_ret k0 n (most : Int) o 0 (rm : Int) (i : Int) = law27_FoldBack_ret true := by
  induction h with
  | @last rm s hle =>
    intro i n hd hp hn hk
    obtain ⟨m, rfl⟩ : ∃ m, n = (m + 1) + s.length := ⟨n - 1 - s.length, by omega⟩
    have hlen : (o.drop i).length = o.length - i := List.length_drop
    rw [hd] at hlen
    have h1 := fb_run k0 most o ho rm s [] 0 i (m + 1) (by rw [hd, List.append_nil]) hp (by omega)
    refine h1.trans ?_
    show law27_FoldBack_l10_b law27_FoldBack_ret k0 (law27_FoldBack_l10 law27_FoldBack_ret k0 m) m _ o _ _ _ = _
    unfold law27_FoldBack_l10_b
    rw [decide_eq_false (show ¬ ((i + s.length : Nat) : Int) < ((o.length : Nat) : Int) by omega), cond_false]
    exact hk _ _ (by omega)
  | @more rm a x y t hle k ih =>
    intro i n hd hp hn hk
    rw [List.all_append, Bool.and_eq_true] at hp
    have hlen : (o.drop i).length = o.length - i := List.length_drop
    rw [hd] at hlen
    simp only [List.length_append, List.length_cons] at hn hlen hle
    obtain ⟨m, rfl⟩ : ∃ m, n = (m + 1) + (a :: x).length := ⟨n - 1 - (x.length + 1), by simp only [List.length_cons]; omega⟩
    simp only [List.length_cons] at hn
    have h1 := fb_run k0 most o ho rm (a :: x) (13 :: 10 :: t) 0 i (m + 1) hd hp.1 (by simp only [List.length_cons]; omega)
    refine h1.trans ?_
    have hd1 : o.drop (i + (a :: x).length) = 13 :: 10 :: t := by rw [← List.drop_drop, hd, List.drop_left]
    obtain ⟨t', rfl⟩ := folded_head k _ _ rfl
    rw [List.length_cons] at hd1 ⊢
    rw [Nat.zero_add]
    generalize hj : i + (x.length + 1) = j at hd1
    obtain ⟨a1, a2, a3⟩ := drop_cons hd1
    obtain ⟨b1, b2, b3⟩ := drop_cons a3
    obtain ⟨c1, c2, c3⟩ := drop_cons b3
    show law27_FoldBack_l10_b law27_FoldBack_ret k0 (law27_FoldBack_l10 law27_FoldBack_ret k0 m) m _ o _ _ _ = _
    unfold law27_FoldBack_l10_b
    have w2 : IntKind.wrap .i64 ((j : Int) + 2) = ((j + 2 : Nat) : Int) := IntWalk.i64_in _ (by omega)
    have e0 : ((((x.length + 1 : Nat) : Int)) == 0) = false := by rw [beq_eq_false_iff_ne]; omega
    rw [decide_eq_true (show (j : Int) < ((o.length : Nat) : Int) by omega), dec_nonneg, toNat_nat, a2, show ((13 : UInt8) != 13) = false from rfl, decide_eq_false (show ¬ (rm : Int) < ((x.length + 1 : Nat) : Int) by omega), e0, w2,
      i64_succ (i := j) (by omega), i64_succ (i := j + 1) (by omega), decide_eq_false (show ¬ ((o.length : Nat) : Int) ≤ ((j + 2 : Nat) : Int) by omega), dec_nonneg, dec_nonneg, toNat_nat, toNat_nat,
      decide_eq_true (show ((j + 1 : Nat) : Int) < ((o.length : Nat) : Int) by omega), decide_eq_true (show ((j + 2 : Nat) : Int) < ((o.length : Nat) : Int) by omega), b2, c2]
    exact ih (j + 1 + 1) m b3 hp.2 (by simp only [List.length_cons] at hn ⊢; omega) hk
end

theorem law27_FoldBack_math : ∀ (s0 : List UInt8) (first1 : Int) (most2 : Int), ∃ n, law27_FoldBack_sh n s0 first1 most2 = law27_FoldBack_ret (law27_FoldBack s0 first1 most2) := fun s a b => ⟨4001, by
  unfold law27_FoldBack_sh
  by_cases h : (600 : Int) < ((s.length : Nat) : Int)
  · rw [decide_eq_true h]; rfl
  · have hs : lenOk s = true := by unfold lenOk; rw [decide_eq_true_eq]; omega
    have hlen := fold_len s a b
    have hlo : lenOk (fold_Fold s a b).1 = true := by unfold lenOk; rw [decide_eq_true_eq]; omega
    have hck : lenOk (unf (fold_Fold s a b).1) = true := lenOk_mono hlo (unf_le _)
    rw [decide_eq_false h, show fold_Fold_ok s a b = true from hs, show fold_Unfold_ok (fold_Fold s a b).1 = true from hlo, show fold_Right_ok (fold_Fold s a b).1 = true from hlo,
      show ref01_Like_ok (fold_Unfold (fold_Fold s a b).1) s = true from hck, show ref01_Like_ok (fold_Fold s a b).1 s = true from hlo]
    show (bif (fold_Fold s a b).2 != 0 then _ else _) = _
    revert hlen
    unfold fold_Fold
    cases hc : fold_check s a b != 0 with
    | true => intro _; rw [cond_true, hc]; rfl
    | false =>
      have hb : badRooms a b = false := by
        cases hb : badRooms a b with
        | false => rfl
        | true => unfold fold_check at hc; rw [hb] at hc; cases hc
      have hpl : s.all plainC = true := by
        cases hp : s.all plainC with
        | true => rfl
        | false => unfold fold_check at hc; rw [hb, hp] at hc; cases hc
      obtain ⟨h1, h2, h3, h4⟩ := rooms_ok hb
      obtain ⟨most, rfl⟩ : ∃ m : Nat, b = m := ⟨b.toNat, by omega⟩
      obtain ⟨first, rfl⟩ : ∃ m : Nat, a = m := ⟨a.toNat, by omega⟩
      rw [toNat_nat, toNat_nat, cond_false]
      cases hq : foldLines (s.length + 1) s first most with
      | none => intro _; rfl
      | some q =>
        obtain ⟨l, r⟩ := q
        intro hlen
        have hF := folded_of _ _ _ _ _ _ hq
        have hU := unf_folded hF hpl
        have hloop := fb_l10 (law27_FoldBack_k10_0 4001) most (joinCL l ++ r) (by simp only at hlen; omega) hF 0 4001 rfl hpl (by simp only at hlen; omega) (fun lg rm' hle => by
          unfold law27_FoldBack_k10_0
          rw [decide_eq_true (by omega : (lg : Int) ≤ (rm' : Int))]
          rfl)
        show (bif (!(ref01_Like (unf (joinCL l ++ r)) s)) then _ else bif (!(!((unf (joinCL l ++ r)).any isBreak))) then _ else _) = _
        rw [hU, like_self, plain_right hpl]
        show (bif decide (((s.length : Nat) : Int) ≤ (first : Int)) then bif (!(ref01_Like (joinCL l ++ r) s)) then _ else _ else _) = _
        by_cases hfit : s.length ≤ first
        · rw [decide_eq_true (show ((s.length : Nat) : Int) ≤ (first : Int) by omega), cond_true]
          have hlr : l = [] ∧ r = s := by
            unfold foldLines at hq
            rw [decide_eq_true hfit, cond_true] at hq
            cases hq
            exact ⟨rfl, rfl⟩
          obtain ⟨rfl, rfl⟩ := hlr
          rw [show joinCL [] ++ r = r from rfl] at hloop ⊢
          rw [like_self]
          exact hloop
        · rw [decide_eq_false (show ¬ ((s.length : Nat) : Int) ≤ (first : Int) by omega), cond_false]
          exact hloop⟩
end Go.Av
