/-
  Soft ends: counted in the text as in its lines.
-/
import Derived.Test.YtejhjmmdachijaaDoorQpP7
namespace Go.Av
def softB : List UInt8 := [61, 13, 10]
/-- How many soft ends. -/
def occ : List UInt8 → Nat
  | [] => 0
  | x :: r => (bif softB.isPrefixOf (x :: r) then 1 else 0) + occ r
theorem pre_iff (x : UInt8) (r : List UInt8) : softB.isPrefixOf (x :: r) = true ↔ x = 61 ∧ ∃ t, r = 13 :: 10 :: t := by
  unfold softB
  match r with
  | [] => simp [List.isPrefixOf]
  | [a] => simp [List.isPrefixOf]
  | a :: b :: t =>
    simp only [List.isPrefixOf, Bool.and_true, Bool.and_eq_true, beq_iff_eq, List.cons.injEq]
    constructor
    · rintro ⟨h1, h2, h3⟩; exact ⟨h1.symm, t, h2.symm, h3.symm, rfl⟩
    · rintro ⟨h1, t', h2, h3, _⟩; exact ⟨h1.symm, h2.symm, h3.symm⟩
theorem occ_skip {x : UInt8} (h : x ≠ 61) (r : List UInt8) : occ (x :: r) = occ r := by
  have : softB.isPrefixOf (x :: r) = false := by
    rw [← Bool.not_eq_true, pre_iff]
    exact fun hh => h hh.1
  rw [show occ (x :: r) = (bif softB.isPrefixOf (x :: r) then 1 else 0) + occ r from rfl, this]
  simp
theorem occ_index : ∀ s : List UInt8, (Lib.index s softB = -1 → occ s = 0) ∧ ∀ k : Nat, Lib.index s softB = (k : Int) → occ s = 1 + occ (s.drop (k + 3))
  | [] => ⟨fun _ => rfl, fun k h => by
      have : Lib.index [] softB = -1 := rfl
      omega⟩
  | c :: r => by
    obtain ⟨i1, i2⟩ := occ_index r
    have hi : Lib.index (c :: r) softB = if softB.isPrefixOf (c :: r) then 0 else if Lib.index r softB == -1 then -1 else Lib.index r softB + 1 := rfl
    have ho : occ (c :: r) = (bif softB.isPrefixOf (c :: r) then 1 else 0) + occ r := rfl
    cases hp : softB.isPrefixOf (c :: r) with
    | true =>
      rw [hp] at hi ho
      obtain ⟨h1, t, h2⟩ := (pre_iff c r).1 hp
      subst h2
      refine ⟨fun h => ?_, fun k h => ?_⟩
      · rw [hi] at h; simp at h
      · rw [hi] at h
        have : k = 0 := by simp at h; omega
        subst this
        rw [ho, occ_skip (by decide), occ_skip (by decide)]
        rfl
    | false =>
      rw [hp] at hi ho
      rcases index_cases r softB with e | e
      · rw [e] at hi
        have hi' : Lib.index (c :: r) softB = -1 := hi
        refine ⟨fun _ => by rw [ho, i1 e]; rfl, fun k h => ?_⟩
        omega
      · have hne : (Lib.index r softB == -1) = false := by rw [beq_eq_false_iff_ne]; omega
        rw [hne] at hi
        have hi' : Lib.index (c :: r) softB = Lib.index r softB + 1 := by rw [hi]; simp
        refine ⟨fun h => by omega, fun k h => ?_⟩
        obtain ⟨j, rfl⟩ : ∃ j, k = j + 1 := ⟨k - 1, by omega⟩
        rw [ho, i2 j (by omega)]
        simp
theorem cnt_occ : ∀ (f : Nat) (s : List UInt8), s.length < f → cntF softB f s = occ s
  | 0, s, h => by omega
  | f + 1, s, h => by
    rw [show cntF softB (f + 1) s = bif Lib.index s softB == -1 then 0 else cntF softB f (s.drop ((Lib.index s softB).toNat + softB.length)) + 1 from rfl]
    obtain ⟨i1, i2⟩ := occ_index s
    rcases index_cases s softB with e | e
    · rw [e, i1 e]; rfl
    · have hr := Lib.index_room s softB e
      have hl3 : softB.length = 3 := rfl
      rw [show (Lib.index s softB == -1) = false by rw [beq_eq_false_iff_ne]; omega, cond_false, hl3, cnt_occ f _ (by rw [List.length_drop]; omega), i2 (Lib.index s softB).toNat (by omega)]
      omega
theorem softL_cons (x : List UInt8) (L : List (List UInt8)) (e : Bool) (h : L = [] → e = true) : softL (x :: L) e = (bif x.getLast? == some 61 then 1 else 0) + softL L e := by
  cases L with
  | nil => rw [h rfl]; show (bif (x.getLast? == some 61) && true then 1 else 0) = _; rw [Bool.and_true]; rfl
  | cons y r => rfl
/-- Does a text begin with a line's end. -/
def crB : List UInt8 → Bool
  | 13 :: 10 :: _ => true
  | _ => false
theorem crB_iff (s : List UInt8) : crB s = true ↔ ∃ t, s = 13 :: 10 :: t := by
  unfold crB
  split
  · simp
  · rename_i h
    simp only [Bool.false_eq_true, false_iff, not_exists]
    intro t ht
    exact h t ht
theorem split_occ : ∀ (s cur : List UInt8), softL (linesEnd (splitS cur s)).1 (linesEnd (splitS cur s)).2 = occ s + (bif (cur.getLast? == some 61) && crB s then 1 else 0)
  | [], cur => by
    rw [splitS_nil]
    unfold linesEnd
    split
    · rename_i e; subst e; rfl
    · show (bif (cur.getLast? == some 61) && false then 1 else 0) = 0 + (bif (cur.getLast? == some 61) && false then 1 else 0)
      rw [Bool.and_false]; rfl
  | [c], cur => by
    have ih := split_occ [] (cur ++ [c])
    rw [splitS_step, if_neg (fun h => by cases h.2), ih]
    have h1 : crB [c] = false := by rw [← Bool.not_eq_true, crB_iff]; rintro ⟨t, ht⟩; cases ht
    have h2 : softB.isPrefixOf [c] = false := by rw [← Bool.not_eq_true, pre_iff]; rintro ⟨_, t, ht⟩; cases ht
    rw [h1, show crB [] = false from rfl, show occ [c] = (bif softB.isPrefixOf [c] then 1 else 0) + occ [] from rfl, h2]
    simp
  | c :: b :: r, cur => by
    rw [splitS_step]
    by_cases h : c = 13 ∧ (b :: r).head? = some 10
    · have hb : b = 10 := by simpa using h.2
      obtain ⟨rfl, _⟩ := h
      subst hb
      rw [if_pos ⟨rfl, rfl⟩]
      have ih := split_occ r []
      have hne := splitS_ne r []
      show softL (linesEnd (cur :: splitS [] r)).1 (linesEnd (cur :: splitS [] r)).2 = _
      have he : linesEnd (cur :: splitS [] r) = (cur :: (linesEnd (splitS [] r)).1, (linesEnd (splitS [] r)).2) := by
        cases hl : splitS [] r with
        | nil => exact absurd hl hne
        | cons a b => rfl
      rw [he, softL_cons _ _ _ (linesEnd_nil _), ih, occ_skip (by decide), occ_skip (by decide), show crB (13 :: 10 :: r) = true from rfl]
      simp [Nat.add_comm]
    · rw [if_neg h, split_occ (b :: r) (cur ++ [c])]
      have h1 : crB (c :: b :: r) = false := by
        rw [← Bool.not_eq_true, crB_iff]
        rintro ⟨t, ht⟩
        simp only [List.cons.injEq] at ht
        exact h ⟨ht.1, by simp [ht.2.1]⟩
      have h2 : softB.isPrefixOf (c :: b :: r) = ((c == 61) && crB (b :: r)) := by
        rw [Bool.eq_iff_iff, pre_iff, Bool.and_eq_true, crB_iff, beq_iff_eq]
      rw [h1, show occ (c :: b :: r) = (bif softB.isPrefixOf (c :: b :: r) then 1 else 0) + occ (b :: r) from rfl, h2, Bool.and_false, show (cur ++ [c]).getLast? = some c by simp,
        show (some c == some (61 : UInt8)) = (c == 61) from rfl]
      simp [Nat.add_comm]
theorem soft_eq (s : List UInt8) : qpage_Soft s = ref18_Soft s := by
  unfold qpage_Soft ref18_Soft bytes_Count
  rw [show cntF [61, 13, 10] (s.length + 1) s = occ s from cnt_occ _ _ (by omega)]
  have := split_occ s []
  rw [show (([] : List UInt8).getLast? == some 61) = false from rfl, Bool.false_and] at this
  unfold ref18_Lines
  rw [this]
  rfl
theorem law18_QpageChecks_math : ∀ (s0 : List UInt8), ∃ n, law18_QpageChecks_sh n s0 = law18_QpageChecks_ret (law18_QpageChecks s0) := fun s => ⟨0, by
  unfold law18_QpageChecks_sh
  by_cases hl : (1000 : Int) < ((s.length : Nat) : Int)
  · rw [dT hl]; rfl
  · have hk : lenOk s = true := lenOk_of (by omega)
    rw [dF hl, show qpage_Check_ok s = true from hk, show ref18_Check_ok s = true from hk, show ref18_Check s = qpage_Check s from rfl, show qpage_Soft_ok s = true from hk, show ref18_Soft_ok s = true from hk, soft_eq]
    simp only [beq_self_eq_true]
    rfl⟩
end Go.Av
