/-
  What is laid is right: lines of what is put behind a text.
-/
import Derived.Test.YtejhjmmdachijaaDoorQpP10
namespace Go.Av
theorem last_tail {x : UInt8} {r : List UInt8} (h : (x :: r).getLast? ≠ some 13) : r.getLast? ≠ some 13 := by
  cases r with
  | nil => simp
  | cons y r => rwa [List.getLast?_cons_cons] at h
/-- The lines of a text behind which another is put. -/
theorem split_app : ∀ (a c : List UInt8) (Ls : List (List UInt8)) (cur b : List UInt8), splitS c a = Ls ++ [cur] → a.getLast? ≠ some 13 → splitS c (a ++ b) = Ls ++ splitS cur b
  | [], c, Ls, cur, b, h, _ => by
    rw [splitS_nil] at h
    cases Ls with
    | nil => simp only [List.nil_append, List.cons.injEq, and_true] at h; rw [h]; rfl
    | cons y Ls => simp at h
  | [x], c, Ls, cur, b, h, hl => by
    have hx : x ≠ 13 := fun e => hl (by rw [e]; rfl)
    rw [splitS_step, if_neg (fun hh => hx hh.1)] at h
    show splitS c (x :: b) = _
    rw [splitS_step, if_neg (fun hh => hx hh.1)]
    exact split_app [] (c ++ [x]) Ls cur b h (by simp)
  | x :: y :: r, c, Ls, cur, b, h, hl => by
    have hl' := last_tail hl
    rw [splitS_step] at h
    show splitS c (x :: (y :: r ++ b)) = _
    rw [splitS_step]
    by_cases hc : x = 13 ∧ (y :: r).head? = some 10
    · rw [if_pos hc] at h
      rw [if_pos (show x = 13 ∧ (y :: r ++ b).head? = some 10 from hc)]
      have hne := splitS_ne r []
      cases Ls with
      | nil =>
        have h' : c :: splitS [] r = [cur] := h
        simp only [List.cons.injEq] at h'
        exact absurd h'.2 hne
      | cons z Ls =>
        have h' : c :: splitS [] r = z :: (Ls ++ [cur]) := h
        simp only [List.cons.injEq] at h'
        show c :: splitS [] (r ++ b) = z :: (Ls ++ splitS cur b)
        rw [split_app r [] Ls cur b h'.2 (last_tail hl'), h'.1]
    · rw [if_neg hc] at h
      rw [if_neg (show ¬ (x = 13 ∧ (y :: r ++ b).head? = some 10) from hc)]
      exact split_app (y :: r) (c ++ [x]) Ls cur b h hl'
theorem split_plain : ∀ (u c : List UInt8), (∀ x ∈ u, x ≠ 13) → splitS c u = [c ++ u]
  | [], c, _ => by rw [splitS_nil, List.append_nil]
  | x :: r, c, h => by
    rw [splitS_step, if_neg (fun hh => h x (by simp) hh.1), split_plain r (c ++ [x]) (fun y hy => h y (by simp [hy])), List.append_assoc]
    rfl
theorem split_crlf (c : List UInt8) : splitS c [13, 10] = [c, []] := by
  rw [splitS_step, if_pos ⟨rfl, rfl⟩]; rfl
theorem split_soft (c : List UInt8) : splitS c [61, 13, 10] = [c ++ [61], []] := by
  rw [splitS_step, if_neg (fun h => absurd h.1 (by decide)), split_crlf]
end Go.Av
