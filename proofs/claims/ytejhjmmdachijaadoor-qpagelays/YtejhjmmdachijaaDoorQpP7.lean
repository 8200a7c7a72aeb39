/-
  The statements on what is laid.
-/
import Derived.Test.YtejhjmmdachijaaDoorQpP6
namespace Go.Av
theorem law18_alive_math : ∃ n, law18_alive_sh n  = law18_alive_ret law18_alive := ⟨0, by kernel_rfl⟩
theorem like_self (s : List UInt8) : ref01_Like s s = true := by unfold ref01_Like; exact dT rfl
theorem law18_QpageLays_math : ∀ (s0 : List UInt8) (c1 : UInt8) (ends2 : Bool), ∃ n, law18_QpageLays_sh n s0 c1 ends2 = law18_QpageLays_ret (law18_QpageLays s0 c1 ends2) := fun s c e => ⟨0, by
  unfold law18_QpageLays_sh
  by_cases hl : (1000 : Int) < ((s.length : Nat) : Int)
  · rw [dT hl]; rfl
  · have h0 : s.length ≤ 1000 := by omega
    have hk : lenOk s = true := lenOk_of (by omega)
    have h1 := lay_len s (by omega)
    have h2 : (brksS 0 s).length ≤ 2 * s.length := brks_len s 0
    rw [dF hl, show qpage_Lay_ok s = true from hk, show ref18_Lay_ok s = true from hk, show ref18_Lay s = qpage_Lay s from rfl, show ref01_Like_ok (qpage_Lay s) (qpage_Lay s) = true from lenOk_of (by omega), like_self,
      show qpage_Len_ok s = true from hk, show qpage_Len s = (((qpage_Lay s).length : Nat) : Int) from rfl, show qpage_Breaks_ok s = true from hk, show ref18_Breaks_ok s = true from hk, show ref18_Breaks s = qpage_Breaks s from rfl,
      show ref01_Like_ok (qpage_Breaks s) (qpage_Breaks s) = true from lenOk_of (by show (brksS 0 s).length ≤ _; omega), like_self, show ref18_Unit c e = qpage_Unit c e from rfl,
      show ref01_Like_ok (qpage_Unit c e) (qpage_Unit c e) = true from lenOk_of (by have := (unit_len c e).1; show (unitL c e).length ≤ _; omega), like_self]
    simp only [beq_self_eq_true]
    rfl⟩
end Go.Av
