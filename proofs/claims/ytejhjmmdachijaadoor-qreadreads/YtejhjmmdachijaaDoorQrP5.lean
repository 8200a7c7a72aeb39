import Derived.Test.YtejhjmmdachijaaDoorQrP4
namespace Go.Av
set_option linter.unusedVariables false
set_option linter.unusedSimpArgs false
theorem z24_math : ∃ n, z24_sh n  = z24_ret z24 := ⟨0, by kernel_rfl⟩
theorem z9_math : ∀ (s0 : List UInt8), ∃ n, z9_sh n s0 = z9_ret (z9 s0) := fun s => ⟨0, by
  unfold z9_sh
  by_cases hl : (1000 : Int) < ((s.length : Nat) : Int)
  · rw [dT hl]; rfl
  · have hk : lenOk s = true := lenOk_of (by omega)
    have h1 := z27_len s
    have h2 := lay_len (z27 s) (by omega)
    have h3 : (z29 s).1.length ≤ s.length := by
      unfold z29
      cases z12 s == 0
      · exact Nat.zero_le _
      · exact h1
    rw [dF hl, show z28_ok s = true from hk, show z29_ok s = true from hk, show z30_ok s = true from hk, show z27_ok s = true from hk, show z31_ok s = true from hk, show z32_ok s = true from hk,
      show (z28 s).1 = z27 s from rfl, show (z28 s).2 = z31 s from rfl, show z30 s = z29 s from rfl,
      show z18_ok (z27 s) (z27 s) = true from lenOk_of (by omega), like_self, show z18_ok (z29 s).1 (z29 s).1 = true from lenOk_of (by omega), like_self,
      show z19_ok (z27 s) = true from lenOk_of (by omega), show z19 (z27 s) = z32 s from rfl, show z18_ok (z32 s) (z32 s) = true from lenOk_of (by show (z16 (z27 s)).length ≤ _; omega), like_self]
    simp only [beq_self_eq_true, Bool.and_true, cond_true, cond_false]
    rfl⟩
end Go.Av
