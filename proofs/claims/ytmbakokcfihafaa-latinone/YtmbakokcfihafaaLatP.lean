/-
  The shallow readings of the layer 'latin' compute what LatM says.
-/
import Derived.Test.YtmbakokcfihafaaLatSh
import Derived.IntWalk
import Derived.KernelRfl
namespace Go.Av
theorem latin_Has_math : ∀ (c0 : Int), ∃ n, latin_Has_sh n c0 = latin_Has_ret (latin_Has c0) := fun _ => ⟨0, rfl⟩
theorem latin_Sign_math : ∀ (x0 : UInt8), ∃ n, latin_Sign_sh n x0 = latin_Sign_ret (latin_Sign x0) := fun _ => ⟨0, rfl⟩
theorem ref08_Sign_math : ∀ (x0 : UInt8), ∃ n, ref08_Sign_sh n x0 = ref08_Sign_ret (ref08_Sign x0) := fun _ => ⟨0, rfl⟩
theorem latin_Put_math : ∀ (c0 : Int), ∃ n, latin_Put_sh n c0 = latin_Put_ret (latin_Put c0).1 (latin_Put c0).2 := fun c => ⟨0, by
  unfold latin_Put_sh latin_Put
  cases latin_Has c <;> rfl⟩

theorem sign_of_nat (i : Int) (h0 : 0 ≤ i) (h1 : i < 256) : ref08_Sign (UInt8.ofNat (Int.toNat (IntKind.wrap .u8 i))) = i := by
  unfold ref08_Sign
  rw [IntWalk.u8_in i (by omega), UInt8.toNat_ofNat', Nat.mod_eq_of_lt (by omega), IntWalk.i32_in _ (by omega)]
  omega

theorem ref08_Put_loop (ret : UInt8 → Bool → Option AV) (k0 : Option AV) (c : Int) : ∀ (d : Nat) (i : Int) (n : Nat), i = 256 - d → 0 ≤ i → d < n →
    ref08_Put_l2 ret k0 n c i = bif decide (i ≤ c) && decide (c < 256) then ret (UInt8.ofNat c.toNat) true else k0
  | d, i, 0, hi, h0, hn => by omega
  | 0, i, n + 1, hi, h0, hn => by
    obtain rfl : i = 256 := by omega
    have h1 : (decide ((256 : Int) ≤ c) && decide (c < 256)) = false := by
      simp only [Bool.and_eq_false_iff, decide_eq_false_iff_not]; omega
    rw [h1]
    rfl
  | d + 1, i, n + 1, hi, h0, hn => by
    have hlt : i < 256 := by omega
    show ref08_Put_l2_b ret k0 (ref08_Put_l2 ret k0 n) n c i = _
    unfold ref08_Put_l2_b
    rw [decide_eq_true hlt, cond_true, sign_of_nat i h0 hlt, IntWalk.i64_in (i + 1) (by omega), ref08_Put_loop ret k0 c d (i + 1) n (by omega) (by omega) (by omega)]
    by_cases e : i = c
    · subst e
      have h1 : (i != 65533) = true := by simp only [bne_iff_ne, ne_eq]; omega
      rw [beq_self_eq_true, cond_true, h1, cond_true, decide_eq_true (Int.le_refl i), decide_eq_true hlt, IntWalk.u8_in i (by omega)]
      rfl
    · have h1 : (i == c) = false := by simp [e]
      have h2 : decide (i + 1 ≤ c) = decide (i ≤ c) := by simp only [decide_eq_decide]; omega
      rw [h1, cond_false, h2]

theorem ref08_Put_math : ∀ (c0 : Int), ∃ n, ref08_Put_sh n c0 = ref08_Put_ret (ref08_Put c0).1 (ref08_Put c0).2 := fun c => ⟨257, by
  unfold ref08_Put_sh ref08_Put
  rw [ref08_Put_loop _ _ c 256 0 257 (by omega) (by omega) (by omega)]
  cases decide (0 ≤ c) && decide (c < 256) <;> rfl⟩

theorem latin_Lacks_loop (ret : Int → Option AV) (k0 : Option AV) (t : List Int) (hl : t.length ≤ 1048576) : ∀ (d : Nat) (i : Nat) (n : Nat), i + d = t.length → d < n →
    latin_Lacks_l2 ret k0 n t (t.length : Nat) (i : Nat) = bif lackAt latin_Has (t.drop i) i == -1 then k0 else ret (lackAt latin_Has (t.drop i) i)
  | d, i, 0, hi, hn => by omega
  | 0, i, n + 1, hi, hn => by
    show latin_Lacks_l2_b ret k0 (latin_Lacks_l2 ret k0 n) n t _ _ = _
    unfold latin_Lacks_l2_b
    rw [List.drop_eq_nil_of_le (by omega), decide_eq_false (by omega)]
    rfl
  | d + 1, i, n + 1, hi, hn => by
    show latin_Lacks_l2_b ret k0 (latin_Lacks_l2 ret k0 n) n t _ _ = _
    unfold latin_Lacks_l2_b
    have hlt : i < t.length := by omega
    have ih := latin_Lacks_loop ret k0 t hl d (i + 1) n (by omega) (by omega)
    rw [decide_eq_true (show (i : Int) < ((t.length : Nat) : Int) by omega), decide_eq_true (show (0 : Int) ≤ ((i : Nat) : Int) by omega), cond_true, Bool.and_true, cond_true, IntWalk.i64_in _ (by omega)]
    rw [List.drop_eq_getElem_cons hlt]
    have hg : List.getD t (Int.toNat (i : Nat)) 0 = t[i] := by simp [hlt]
    rw [hg]
    unfold lackAt
    cases latin_Has t[i] with
    | true => exact ih
    | false =>
      have : ((i : Int) == -1) = false := by simp only [beq_eq_false_iff_ne, ne_eq]; omega
      simp [this]

theorem latin_Lacks_math : ∀ (t0 : List Int), (latin_Lacks_ok t0 = true) → ∃ n, latin_Lacks_sh n t0 = latin_Lacks_ret (latin_Lacks t0) := fun t h => ⟨t.length + 1, by
  unfold latin_Lacks_ok at h
  unfold latin_Lacks_sh latin_Lacks
  have := latin_Lacks_loop latin_Lacks_ret (latin_Lacks_k2_0 (t.length + 1)) t (by simpa using h) t.length 0 (t.length + 1) (by omega) (by omega)
  rw [List.drop_zero] at this
  refine this.trans ?_
  cases e : (lackAt latin_Has t (0 : Nat) == -1) with
  | true =>
    rw [beq_iff_eq] at e
    have e' : lackAt latin_Has t 0 = -1 := e
    rw [e']
    rfl
  | false => rfl⟩

theorem law08_alive_math : ∃ n, law08_alive_sh n = law08_alive_ret law08_alive := ⟨0, by kernel_rfl⟩
theorem law08_LatinOne_math : ∀ (c0 : Int) (x1 : UInt8), ∃ n, law08_LatinOne_sh n c0 x1 = law08_LatinOne_ret (law08_LatinOne c0 x1) := fun c x => ⟨0, by
  unfold law08_LatinOne_sh law08_LatinOne
  cases (latin_Put c).1 == (ref08_Put c).1 <;> cases (latin_Put c).2 == (ref08_Put c).2 <;> cases latin_Has c == (ref08_Put c).2 <;> cases latin_Sign x == ref08_Sign x <;> rfl⟩

/-- THE LAW, of what the functions compute. -/
theorem law08_LatinOne_true (c : Int) (x : UInt8) (h : -2147483648 ≤ c ∧ c ≤ 2147483647) : law08_LatinOne c x = true := by
  have h1 : latin_Has c = (decide (0 ≤ c) && decide (c < 256)) := by
    unfold latin_Has
    rw [IntKind.wrap_u32, Bool.eq_iff_iff]
    simp only [decide_eq_true_eq, Bool.and_eq_true]
    omega
  have h2 : latin_Put c = ref08_Put c := by
    unfold latin_Put ref08_Put
    rw [h1]
    cases e : decide (0 ≤ c) && decide (c < 256)
    · rfl
    · simp only [Bool.and_eq_true, decide_eq_true_eq] at e
      rw [cond_true, cond_true, IntWalk.u8_in c (by omega)]
  have h3 : latin_Has c = (ref08_Put c).2 := by
    rw [h1]
    unfold ref08_Put
    cases decide (0 ≤ c) && decide (c < 256) <;> rfl
  unfold law08_LatinOne
  rw [h2, h3]
  simp [latin_Sign, ref08_Sign]
end Go.Av
