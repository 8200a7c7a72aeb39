import Derived.Test.YtejhjmmdachijaaDoorQrP4
namespace Go.Av
set_option linter.unusedVariables false
set_option linter.unusedSimpArgs false
theorem z24_math : ∃ n, z24_sh n  = z24_ret z24 := ⟨0, by kernel_rfl⟩
theorem take_sign {x : UInt8} {r : List UInt8} (h : (x == 61) = false) : (z50 (x :: r) 0 61).2 = false := by
  unfold z50
  cases decide ((0 : Int) ≤ 0) && decide ((0 : Int) ≤ ((x :: r).length : Int) - 3)
  · rfl
  · show (takeAt (x :: r) 0 61).2 = false
    unfold takeAt
    rw [show ((x :: r).getD 0 0 == 61) = false from h]
    rfl
theorem dropR_last {p : UInt8 → Bool} {l : List UInt8} (h : ∀ c, l.getLast? = some c → p c = false) : dropR p l = l := by
  rcases List.eq_nil_or_concat l with rfl | ⟨t, x, rfl⟩
  · rfl
  · rw [List.concat_eq_append] at h ⊢
    rw [dropR_snoc, h x (by simp)]
    rfl
end Go.Av
