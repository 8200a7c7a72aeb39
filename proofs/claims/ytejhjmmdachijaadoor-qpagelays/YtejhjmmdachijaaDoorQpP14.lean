/-
  The statement that what is laid is right.
-/
import Derived.Test.YtejhjmmdachijaaDoorQpP13
namespace Go.Av
theorem inv2_start : Inv2 ([], (0, ())) := ⟨rfl, Int.le_refl _, fun _ => .inl rfl⟩
theorem lay_facts (s : List UInt8) : (qpage_Lay s).all okc = true ∧ (s ≠ [] → 0 < (qpage_Lay s).length) ∧ (qpage_Lay s ≠ [] → (qpage_Lay s).getLast? = some 10) := by
  obtain ⟨h1, h2, h3⟩ := inv2_lay s 0 ([], (0, ())) inv2_start
  unfold qpage_Lay pDone
  by_cases hp : 0 < (layS 0 s ([], (0, ()))).2.1
  · rw [dT hp]
    obtain ⟨g1, g2⟩ := inv2_end h1 true
    refine ⟨g1.1, fun _ => by show 0 < (pEnd _ true).1.length; omega, fun hne => ?_⟩
    rcases g1.2.2 rfl with e | e
    · exact absurd e hne
    · exact e
  · rw [dF hp]
    refine ⟨h1.1, fun hs => by have := h3 rfl hs; show 0 < (layS 0 s ([], (0, ()))).1.length; omega, fun hne => ?_⟩
    rcases h1.2.2 (by have := h1.2.1; omega) with e | e
    · exact absurd e hne
    · exact e
theorem right18_loop (ret : Bool → Option AV) (k0 : List UInt8 → List UInt8 → Option AV) (s a : List UInt8) (hl : a.length ≤ 1048576) (ha : a.all okc = true) : ∀ (d i n : Nat), i + d = a.length → d < n →
    law18_QpageRight_l5 ret k0 n s a a ((a.length : Nat) : Int) (i : Nat) = k0 s a
  | d, i, 0, hi, hn => by omega
  | 0, i, n + 1, hi, hn => by
    show law18_QpageRight_l5_b _ _ _ n _ _ _ _ _ = _
    unfold law18_QpageRight_l5_b
    rw [dF (by omega)]
    rfl
  | d + 1, i, n + 1, hi, hn => by
    have hlt : i < a.length := by omega
    have ih := right18_loop ret k0 s a hl ha d (i + 1) n (by omega) (by omega)
    have hx : okc (a.getD i 0) = true := by
      rw [List.all_eq_true] at ha
      exact ha _ (by simp [List.getD, List.getElem?_eq_getElem hlt])
    show law18_QpageRight_l5_b _ _ _ n _ _ _ _ _ = _
    unfold law18_QpageRight_l5_b
    rw [i64_succ (by omega), ih, tn]
    simp (disch := omega) only [dT, cond_true, Bool.and_true]
    generalize a.getD i 0 = x at hx
    unfold okc at hx
    have e1 : (x != 13) = !(x == 13) := rfl
    have e2 : (x != 10) = !(x == 10) := rfl
    have e3 : (x != 9) = !(x == 9) := rfl
    have e4 : decide (x < 32) = !(decide (32 ≤ x)) := by rw [← decide_not]; congr 1; apply propext; exact UInt8.not_le.symm
    have e5 : decide (126 < x) = !(decide (x ≤ 126)) := by rw [← decide_not]; congr 1; apply propext; exact UInt8.not_le.symm
    rw [e1, e2, e3, e4, e5]
    revert hx
    cases (x == 13) <;> cases (x == 10) <;> cases (x == 9) <;> cases decide (32 ≤ x) <;> cases decide (x ≤ 126) <;> intro hx <;> first | rfl | exact absurd hx (by decide)
theorem law18_QpageRight_math : ∀ (s0 : List UInt8), ∃ n, law18_QpageRight_sh n s0 = law18_QpageRight_ret (law18_QpageRight s0) := fun s => ⟨100000, by
  unfold law18_QpageRight_sh
  by_cases hl : (1000 : Int) < ((s.length : Nat) : Int)
  · rw [dT hl]; rfl
  · have hk : lenOk s = true := lenOk_of (by omega)
    have h1 := lay_len s (by omega)
    obtain ⟨f1, f2, f3⟩ := lay_facts s
    rw [dF hl, show qpage_Lay_ok s = true from hk]
    simp only [Bool.and_true, cond_true, cond_false]
    refine (right18_loop law18_QpageRight_ret (law18_QpageRight_k5_0 100000) s (qpage_Lay s) (by omega) f1 (qpage_Lay s).length 0 100000 (by omega) (by omega)).trans ?_
    unfold law18_QpageRight_k5_0
    rw [show qpage_Check_ok (qpage_Lay s) = true from lenOk_of (by omega), check_lay]
    by_cases hs : s = []
    · subst hs; rfl
    · have hp := f2 hs
      have hsp : 0 < s.length := List.length_pos_iff.2 hs
      have hne : qpage_Lay s ≠ [] := List.length_pos_iff.1 hp
      have hlast := f3 hne
      rw [List.getLast?_eq_getElem?] at hlast
      rw [dT (show (0 : Int) < (((qpage_Lay s).length : Nat) : Int) by omega), dT (show (0 : Int) < ((s.length : Nat) : Int) by omega), show ((((qpage_Lay s).length : Nat) : Int) == 0) = false by rw [beq_eq_false_iff_ne]; omega,
        show IntKind.wrap .i64 ((((qpage_Lay s).length : Nat) : Int) - 1) = (((qpage_Lay s).length - 1 : Nat) : Int) by rw [IntWalk.i64_in _ (by omega)]; omega, dT (by omega), dT (by omega), tn,
        show (qpage_Lay s).getD ((qpage_Lay s).length - 1) 0 = 10 from by simp [List.getD, hlast]]
      rfl⟩
end Go.Av
