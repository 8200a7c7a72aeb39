/-
  The statement on breaks.
-/
import Derived.Test.YtejhjmmdachijaaDoorQpP9
namespace Go.Av
/-- A loop that counts line ends. -/
theorem ten_rule {l : List UInt8} {k0 : Int → Option AV} {L : Nat → Int → Int → Option AV} (hl : l.length ≤ 1048576)
    (hL : ∀ n i : Nat, ∀ m : Int, i < l.length → L (n + 1) m (i : Int) = bif l.getD i 0 == 10 then L n (IntKind.wrap .i64 (m + 1)) ((i + 1 : Nat) : Int) else L n m ((i + 1 : Nat) : Int)) (hE : ∀ n m, L (n + 1) m ((l.length : Nat) : Int) = k0 m) :
    ∀ d i n m : Nat, i + d = l.length → d < n → m + d ≤ 1048576 → L n (m : Int) (i : Int) = k0 ((m + (l.drop i).count 10 : Nat) : Int)
  | d, i, 0, m, hi, hn, _ => by omega
  | 0, i, n + 1, m, hi, hn, _ => by
    obtain rfl : i = l.length := by omega
    rw [hE, List.drop_eq_nil_of_le (by omega)]
    rfl
  | d + 1, i, n + 1, m, hi, hn, hm => by
    have hlt : i < l.length := by omega
    rw [hL n i m hlt, i64_succ (by omega), ten_rule hl hL hE d (i + 1) n (m + 1) (by omega) (by omega) (by omega), ten_rule hl hL hE d (i + 1) n m (by omega) (by omega) (by omega), getD_drop (d := (0 : UInt8)) hlt]
    by_cases h10 : l.getD i 0 = 10
    · rw [h10, List.count_cons_self]
      show k0 _ = k0 _
      congr 1; omega
    · rw [show (l.getD i 0 == 10) = false by simpa using h10, List.count_cons_of_ne h10]
      rfl
theorem law18_QpageBreaks_math : ∀ (s0 : List UInt8), ∃ n, law18_QpageBreaks_sh n s0 = law18_QpageBreaks_ret (law18_QpageBreaks s0) := fun s => ⟨100000, by
  unfold law18_QpageBreaks_sh
  by_cases hl : (1000 : Int) < ((s.length : Nat) : Int)
  · rw [dT hl]; rfl
  · have h0 : s.length ≤ 1000 := by omega
    have hk : lenOk s = true := lenOk_of (by omega)
    have h1 := lay_len s (by omega)
    have h2 : (brksS 0 s).length ≤ 2 * s.length := brks_len s 0
    have hc := lay_count s
    have hcl : (qpage_Lay s).count 10 ≤ (qpage_Lay s).length := List.count_le_length
    rw [dF hl, show qpage_Breaks_ok s = true from hk, show qpage_Breaks s = brksS 0 s from rfl]
    simp only [Bool.and_true, cond_true, cond_false]
    refine (ten_rule (l := brksS 0 s) (k0 := fun m => law18_QpageBreaks_k6_0 100000 s (brksS 0 s) m) (L := fun n m i => law18_QpageBreaks_l6 (law18_QpageBreaks_k6_0 100000) n s (brksS 0 s) m (brksS 0 s) (((brksS 0 s).length : Nat) : Int) i) (by omega) (fun n i m hi => ?_) (fun n m => ?_) (brksS 0 s).length 0 100000 0 (by omega) (by omega) (by omega)).trans ?_
    · show law18_QpageBreaks_l6_b _ _ n _ _ _ _ _ _ = _
      unfold law18_QpageBreaks_l6_b
      rw [i64_succ (i := i) (by omega), tn]
      simp (disch := omega) only [dT, cond_true, Bool.and_true]
    · show law18_QpageBreaks_l6_b _ _ n _ _ _ _ _ _ = _
      unfold law18_QpageBreaks_l6_b
      rw [dF (by omega)]
      rfl
    · rw [List.drop_zero, Nat.zero_add]
      unfold law18_QpageBreaks_k6_0
      rw [show qpage_Lay_ok s = true from hk]
      simp only [Bool.and_true, cond_true]
      refine (ten_rule (l := qpage_Lay s) (k0 := fun m => law18_QpageBreaks_k14_2 100000 (brksS 0 s) (((brksS 0 s).count 10 : Nat) : Int) (qpage_Lay s) m) (L := fun n m i => law18_QpageBreaks_l14 (law18_QpageBreaks_k14_2 100000) n (brksS 0 s) (((brksS 0 s).count 10 : Nat) : Int) (qpage_Lay s) m (qpage_Lay s) (((qpage_Lay s).length : Nat) : Int) i) (by omega) (fun n i m hi => ?_) (fun n m => ?_) (qpage_Lay s).length 0 100000 0 (by omega) (by omega) (by omega)).trans ?_
      · show law18_QpageBreaks_l14_b _ _ n _ _ _ _ _ _ _ = _
        unfold law18_QpageBreaks_l14_b
        rw [i64_succ (i := i) (by omega), tn]
        simp (disch := omega) only [dT, cond_true, Bool.and_true]
      · show law18_QpageBreaks_l14_b _ _ n _ _ _ _ _ _ _ = _
        unfold law18_QpageBreaks_l14_b
        rw [dF (by omega)]
        rfl
      · rw [List.drop_zero, Nat.zero_add]
        show law18_QpageBreaks_k14_2 100000 (brksS 0 s) (((brksS 0 s).count 10 : Nat) : Int) (qpage_Lay s) (((qpage_Lay s).count 10 : Nat) : Int) = _
        unfold law18_QpageBreaks_k14_2
        rw [show qpage_Lay_ok (brksS 0 s) = true from lenOk_of (by omega), qlay_brks, show ref01_Like_ok (qpage_Lay s) (qpage_Lay s) = true from lenOk_of (by omega), like_self, show qpage_Breaks_ok (brksS 0 s) = true from lenOk_of (by omega),
          show qpage_Breaks (brksS 0 s) = brksS 0 s from brks_brks s 0, show ref01_Like_ok (brksS 0 s) (brksS 0 s) = true from lenOk_of (by omega), like_self, show qpage_Soft_ok (qpage_Lay s) = true from lenOk_of (by omega),
          show qpage_Soft (qpage_Lay s) = ((occ (qpage_Lay s) : Nat) : Int) from by unfold qpage_Soft bytes_Count; rw [show cntF [61, 13, 10] ((qpage_Lay s).length + 1) (qpage_Lay s) = occ (qpage_Lay s) from cnt_occ _ _ (by omega)],
          show IntKind.wrap .i64 ((((qpage_Lay s).count 10 : Nat) : Int) - ((occ (qpage_Lay s) : Nat) : Int)) = (((brksS 0 s).count 10 : Nat) : Int) from by rw [IntWalk.i64_in _ (by omega)]; omega]
        simp only [beq_self_eq_true]
        rfl⟩
end Go.Av
